/- The law SpanSets: whatever it is handed, it returns true, and what it is handed reads as before. No conditions. -/
import Derived.Test.YtlfcaoniclnimaaM4
import Derived.Test.YtlfcaoniclnimaaM1
import Derived.Test.YtlfcaoniclnimaaRows
import Derived.WalkKit
import Derived.ProofKit
import Derived.OpenShut
import Derived.ShutString
import Derived.ChangeOld
import Derived.Below
import Derived.SizedLaws
namespace Go.Proofs.Ytlfcaoniclnimaa.G
open Go.RowKit Go.Proofs.YtlfcaoniclnimaaW.PrintWords Go.Proofs.YtlfcaoniclnimaaW.PrintLast Go.Proofs.YtlfcaoniclnimaaW.PrintMore
attribute [local go_sem] max2_int min2_int max_two min_two max_three min_three max_four min_four   -- for this text's walks alone
set_option linter.unusedVariables false
set_option linter.unusedSimpArgs false
set_option maxRecDepth 100000 in
set_option maxHeartbeats 40000000 in
theorem sets_walk (a b u c m : List S35) (x eu ec em : Int) (p q : Bool) (k1 k2 k3 k4 k5 : Nat) (A0 : Option Addr) (c0 : Nat) (A1 : Option Addr) (c1 : Nat) (w : World) (hr0 : Kd.C k35 w A0 a.length a) (hc0 : a.length ≤ c0) (hr1 : Kd.C k35 w A1 b.length b) (hc1 : b.length ≤ c1)
    (ga : papermilllaw04_great.f a = some false) (gb : papermilllaw04_great.f b = some false) (ca : span_Check.f k1 a = some 0) (cb : span_Check.f k2 b = some 0) (hu : span_Union.f k3 a b = some (u, eu)) (hc : span_Common.f k4 a b = some (c, ec)) (hm : span_Minus.f k5 a b = some (m, em))
    (pa : span_Has.f a x = some p) (pb : span_Has.f b x = some q) (pu : eu = 0 → span_Has.f u x = some (p || q)) (pc : ec = 0 → span_Has.f c x = some (p && q)) (pm : em = 0 → span_Has.f m x = some (p && !q)) (eu0 : eu = 0 ∨ eu = 8) (ec0 : ec = 0 ∨ ec = 8) (em0 : em = 0 ∨ em = 8) :
    Calls Try.prog 11 #[.slice A0 a.length c0, .slice A1 b.length c1, .int .i64 x] w fun e w' => e = .returned (.bool true) ∧ Below w.heap.size w w' := by
  have HR0 := Aside0.mk hr0
  have HC0 := Aside0.mk hc0
  have HR1 := Aside0.mk hr1
  have HC1 := Aside0.mk hc1
  have GA := Aside0.mk ga
  have GB := Aside0.mk gb
  have CA := Aside0.mk ca
  have CB := Aside0.mk cb
  have HU := Aside0.mk hu
  have HC := Aside0.mk hc
  have HM := Aside0.mk hm
  have Pa := Aside0.mk pa
  have Pb := Aside0.mk pb
  have Pu := Aside0.mk pu
  have Pc := Aside0.mk pc
  have Pm := Aside0.mk pm
  have HB := Aside0.mk (Below.refl w.heap.size w)
  clear hr0 hc0 hr1 hc1 ga gb ca cb hu hc hm pa pb pu pc pm
  rcases eu0 with rfl | rfl <;> rcases ec0 with rfl | rfl <;> rcases em0 with rfl | rfl <;> cases p <;> cases q
  all_goals as_aux_lemma =>
    go_enter Try.func11, Try.ntmps11
    go_wp2_with (first | (go_at_call 12; (with_reducible refine (papermilllaw04_great.calls _ _ a false _ HR0.out HC0.out GA.out).mono ?_); rintro e w_ ⟨rfl, hd⟩; (try replace HR0 := Aside0.mk (Kd.C_below HR0.out hd.below)); (try replace HR1 := Aside0.mk (Kd.C_below HR1.out hd.below)); (try replace HRu := Aside0.mk (Kd.C_below HRu.out hd.below)); (try replace HRc := Aside0.mk (Kd.C_below HRc.out hd.below)); (try replace HRm := Aside0.mk (Kd.C_below HRm.out hd.below)); replace HB := Aside0.mk (below_then HB.out HB.out.size hd.below); clear hd) | (go_at_call 12; (with_reducible refine (papermilllaw04_great.calls _ _ b false _ HR1.out HC1.out GB.out).mono ?_); rintro e w_ ⟨rfl, hd⟩; (try replace HR0 := Aside0.mk (Kd.C_below HR0.out hd.below)); (try replace HR1 := Aside0.mk (Kd.C_below HR1.out hd.below)); (try replace HRu := Aside0.mk (Kd.C_below HRu.out hd.below)); (try replace HRc := Aside0.mk (Kd.C_below HRc.out hd.below)); (try replace HRm := Aside0.mk (Kd.C_below HRm.out hd.below)); replace HB := Aside0.mk (below_then HB.out HB.out.size hd.below); clear hd) | (go_at_call 27; (with_reducible refine (span_Check.calls k1 _ _ a 0 _ HR0.out HC0.out CA.out).mono ?_); rintro e w_ ⟨rfl, hb⟩; (try replace HR0 := Aside0.mk (Kd.C_below HR0.out hb)); (try replace HR1 := Aside0.mk (Kd.C_below HR1.out hb)); (try replace HRu := Aside0.mk (Kd.C_below HRu.out hb)); (try replace HRc := Aside0.mk (Kd.C_below HRc.out hb)); (try replace HRm := Aside0.mk (Kd.C_below HRm.out hb)); replace HB := Aside0.mk (below_then HB.out HB.out.size hb); clear hb) | (go_at_call 27; (with_reducible refine (span_Check.calls k2 _ _ b 0 _ HR1.out HC1.out CB.out).mono ?_); rintro e w_ ⟨rfl, hb⟩; (try replace HR0 := Aside0.mk (Kd.C_below HR0.out hb)); (try replace HR1 := Aside0.mk (Kd.C_below HR1.out hb)); (try replace HRu := Aside0.mk (Kd.C_below HRu.out hb)); (try replace HRc := Aside0.mk (Kd.C_below HRc.out hb)); (try replace HRm := Aside0.mk (Kd.C_below HRm.out hb)); replace HB := Aside0.mk (below_then HB.out HB.out.size hb); clear hb) | (go_at_call 21; (with_reducible refine (span_Union.calls k3 _ _ a _ _ b u _ _ HR0.out HC0.out HR1.out HC1.out HU.out).mono ?_); rintro e w_ ⟨vu, rfl, ho, hb⟩; obtain ⟨Au, cu, eu, hc_, hr_⟩ := Kd.R_reads ho; subst eu; clear ho; (try replace HR0 := Aside0.mk (Kd.C_below HR0.out hb)); (try replace HR1 := Aside0.mk (Kd.C_below HR1.out hb)); (try replace HRu := Aside0.mk (Kd.C_below HRu.out hb)); (try replace HRc := Aside0.mk (Kd.C_below HRc.out hb)); (try replace HRm := Aside0.mk (Kd.C_below HRm.out hb)); replace HB := Aside0.mk (below_then HB.out HB.out.size hb); have HRu := Aside0.mk hr_; have HCu := Aside0.mk hc_; clear hr_ hc_ hb) | (go_at_call 23; (with_reducible refine (span_Common.calls k4 _ _ a _ _ b c _ _ HR0.out HC0.out HR1.out HC1.out HC.out).mono ?_); rintro e w_ ⟨vc, rfl, ho, hb⟩; obtain ⟨Ac, cc, ec, hc_, hr_⟩ := Kd.R_reads ho; subst ec; clear ho; (try replace HR0 := Aside0.mk (Kd.C_below HR0.out hb)); (try replace HR1 := Aside0.mk (Kd.C_below HR1.out hb)); (try replace HRu := Aside0.mk (Kd.C_below HRu.out hb)); (try replace HRc := Aside0.mk (Kd.C_below HRc.out hb)); (try replace HRm := Aside0.mk (Kd.C_below HRm.out hb)); replace HB := Aside0.mk (below_then HB.out HB.out.size hb); have HRc := Aside0.mk hr_; have HCc := Aside0.mk hc_; clear hr_ hc_ hb) | (go_at_call 25; (with_reducible refine (span_Minus.calls k5 _ _ a _ _ b m _ _ HR0.out HC0.out HR1.out HC1.out HM.out).mono ?_); rintro e w_ ⟨vm, rfl, ho, hb⟩; obtain ⟨Am, cm, em, hc_, hr_⟩ := Kd.R_reads ho; subst em; clear ho; (try replace HR0 := Aside0.mk (Kd.C_below HR0.out hb)); (try replace HR1 := Aside0.mk (Kd.C_below HR1.out hb)); (try replace HRu := Aside0.mk (Kd.C_below HRu.out hb)); (try replace HRc := Aside0.mk (Kd.C_below HRc.out hb)); (try replace HRm := Aside0.mk (Kd.C_below HRm.out hb)); replace HB := Aside0.mk (below_then HB.out HB.out.size hb); have HRm := Aside0.mk hr_; have HCm := Aside0.mk hc_; clear hr_ hc_ hb) | (go_at_call 29; (with_reducible refine (span_Has.calls _ _ a x _ _ HR0.out HC0.out Pa.out).mono ?_); rintro e w_ ⟨rfl, hb⟩; (try replace HR0 := Aside0.mk (Kd.C_below HR0.out hb)); (try replace HR1 := Aside0.mk (Kd.C_below HR1.out hb)); (try replace HRu := Aside0.mk (Kd.C_below HRu.out hb)); (try replace HRc := Aside0.mk (Kd.C_below HRc.out hb)); (try replace HRm := Aside0.mk (Kd.C_below HRm.out hb)); replace HB := Aside0.mk (below_then HB.out HB.out.size hb); clear hb) | (go_at_call 29; (with_reducible refine (span_Has.calls _ _ b x _ _ HR1.out HC1.out Pb.out).mono ?_); rintro e w_ ⟨rfl, hb⟩; (try replace HR0 := Aside0.mk (Kd.C_below HR0.out hb)); (try replace HR1 := Aside0.mk (Kd.C_below HR1.out hb)); (try replace HRu := Aside0.mk (Kd.C_below HRu.out hb)); (try replace HRc := Aside0.mk (Kd.C_below HRc.out hb)); (try replace HRm := Aside0.mk (Kd.C_below HRm.out hb)); replace HB := Aside0.mk (below_then HB.out HB.out.size hb); clear hb) | (go_at_call 29; (with_reducible refine (span_Has.calls _ _ u x _ _ HRu.out HCu.out (Pu.out (by simp))).mono ?_); rintro e w_ ⟨rfl, hb⟩; (try replace HR0 := Aside0.mk (Kd.C_below HR0.out hb)); (try replace HR1 := Aside0.mk (Kd.C_below HR1.out hb)); (try replace HRu := Aside0.mk (Kd.C_below HRu.out hb)); (try replace HRc := Aside0.mk (Kd.C_below HRc.out hb)); (try replace HRm := Aside0.mk (Kd.C_below HRm.out hb)); replace HB := Aside0.mk (below_then HB.out HB.out.size hb); clear hb) | (go_at_call 29; (with_reducible refine (span_Has.calls _ _ c x _ _ HRc.out HCc.out (Pc.out (by simp))).mono ?_); rintro e w_ ⟨rfl, hb⟩; (try replace HR0 := Aside0.mk (Kd.C_below HR0.out hb)); (try replace HR1 := Aside0.mk (Kd.C_below HR1.out hb)); (try replace HRu := Aside0.mk (Kd.C_below HRu.out hb)); (try replace HRc := Aside0.mk (Kd.C_below HRc.out hb)); (try replace HRm := Aside0.mk (Kd.C_below HRm.out hb)); replace HB := Aside0.mk (below_then HB.out HB.out.size hb); clear hb) | (go_at_call 29; (with_reducible refine (span_Has.calls _ _ m x _ _ HRm.out HCm.out (Pm.out (by simp))).mono ?_); rintro e w_ ⟨rfl, hb⟩; (try replace HR0 := Aside0.mk (Kd.C_below HR0.out hb)); (try replace HR1 := Aside0.mk (Kd.C_below HR1.out hb)); (try replace HRu := Aside0.mk (Kd.C_below HRu.out hb)); (try replace HRc := Aside0.mk (Kd.C_below HRc.out hb)); (try replace HRm := Aside0.mk (Kd.C_below HRm.out hb)); replace HB := Aside0.mk (below_then HB.out HB.out.size hb); clear hb) | (go_at_call 13; (with_reducible refine (papermilllaw04_awake.calls true _ rfl).mono ?_); rintro e w_ ⟨rfl, hb⟩; (try replace HR0 := Aside0.mk (Kd.C_below HR0.out hb)); (try replace HR1 := Aside0.mk (Kd.C_below HR1.out hb)); (try replace HRu := Aside0.mk (Kd.C_below HRu.out hb)); (try replace HRc := Aside0.mk (Kd.C_below HRc.out hb)); (try replace HRm := Aside0.mk (Kd.C_below HRm.out hb)); replace HB := Aside0.mk (below_then HB.out HB.out.size hb); clear hb))
    go_ret
    exact ⟨rfl, HB.out⟩
set_option maxRecDepth 100000 in
set_option maxHeartbeats 8000000 in
theorem sets_awake0 (a b : List S35) (x e : Int) (A0 : Option Addr) (c0 : Nat) (A1 : Option Addr) (c1 : Nat) (w : World) (hr0 : Kd.C k35 w A0 a.length a) (hc0 : a.length ≤ c0) (hr1 : Kd.C k35 w A1 b.length b) (hc1 : b.length ≤ c1) (ga : papermilllaw04_great.f a = some true) :
    Calls Try.prog 11 #[.slice A0 a.length c0, .slice A1 b.length c1, .int .i64 x] w fun e w' => e = .returned (.bool true) ∧ Below w.heap.size w w' := by
  have HR0 := Aside0.mk hr0
  have HC0 := Aside0.mk hc0
  have HR1 := Aside0.mk hr1
  have HC1 := Aside0.mk hc1
  have GA := Aside0.mk ga
  clear ga
  have HB := Aside0.mk (Below.refl w.heap.size w)
  clear hr0 hc0 hr1 hc1
  go_enter Try.func11, Try.ntmps11
  go_wp2_with (first | (go_at_call 12; (with_reducible refine (papermilllaw04_great.calls _ _ a true _ HR0.out HC0.out GA.out).mono ?_); rintro e w_ ⟨rfl, hd⟩; (try replace HR0 := Aside0.mk (Kd.C_below HR0.out hd.below)); (try replace HR1 := Aside0.mk (Kd.C_below HR1.out hd.below)); (try replace HRu := Aside0.mk (Kd.C_below HRu.out hd.below)); (try replace HRc := Aside0.mk (Kd.C_below HRc.out hd.below)); (try replace HRm := Aside0.mk (Kd.C_below HRm.out hd.below)); replace HB := Aside0.mk (below_then HB.out HB.out.size hd.below); clear hd) | (go_at_call 13; (with_reducible refine (papermilllaw04_awake.calls true _ rfl).mono ?_); rintro e w_ ⟨rfl, hb⟩; (try replace HR0 := Aside0.mk (Kd.C_below HR0.out hb)); (try replace HR1 := Aside0.mk (Kd.C_below HR1.out hb)); (try replace HRu := Aside0.mk (Kd.C_below HRu.out hb)); (try replace HRc := Aside0.mk (Kd.C_below HRc.out hb)); (try replace HRm := Aside0.mk (Kd.C_below HRm.out hb)); replace HB := Aside0.mk (below_then HB.out HB.out.size hb); clear hb))
  go_ret
  exact ⟨rfl, HB.out⟩
set_option maxRecDepth 100000 in
set_option maxHeartbeats 8000000 in
theorem sets_awake1 (a b : List S35) (x e : Int) (A0 : Option Addr) (c0 : Nat) (A1 : Option Addr) (c1 : Nat) (w : World) (hr0 : Kd.C k35 w A0 a.length a) (hc0 : a.length ≤ c0) (hr1 : Kd.C k35 w A1 b.length b) (hc1 : b.length ≤ c1) (ga : papermilllaw04_great.f a = some false) (gb : papermilllaw04_great.f b = some true) :
    Calls Try.prog 11 #[.slice A0 a.length c0, .slice A1 b.length c1, .int .i64 x] w fun e w' => e = .returned (.bool true) ∧ Below w.heap.size w w' := by
  have HR0 := Aside0.mk hr0
  have HC0 := Aside0.mk hc0
  have HR1 := Aside0.mk hr1
  have HC1 := Aside0.mk hc1
  have GA := Aside0.mk ga
  clear ga
  have GB := Aside0.mk gb
  clear gb
  have HB := Aside0.mk (Below.refl w.heap.size w)
  clear hr0 hc0 hr1 hc1
  go_enter Try.func11, Try.ntmps11
  go_wp2_with (first | (go_at_call 12; (with_reducible refine (papermilllaw04_great.calls _ _ a false _ HR0.out HC0.out GA.out).mono ?_); rintro e w_ ⟨rfl, hd⟩; (try replace HR0 := Aside0.mk (Kd.C_below HR0.out hd.below)); (try replace HR1 := Aside0.mk (Kd.C_below HR1.out hd.below)); (try replace HRu := Aside0.mk (Kd.C_below HRu.out hd.below)); (try replace HRc := Aside0.mk (Kd.C_below HRc.out hd.below)); (try replace HRm := Aside0.mk (Kd.C_below HRm.out hd.below)); replace HB := Aside0.mk (below_then HB.out HB.out.size hd.below); clear hd) | (go_at_call 12; (with_reducible refine (papermilllaw04_great.calls _ _ b true _ HR1.out HC1.out GB.out).mono ?_); rintro e w_ ⟨rfl, hd⟩; (try replace HR0 := Aside0.mk (Kd.C_below HR0.out hd.below)); (try replace HR1 := Aside0.mk (Kd.C_below HR1.out hd.below)); (try replace HRu := Aside0.mk (Kd.C_below HRu.out hd.below)); (try replace HRc := Aside0.mk (Kd.C_below HRc.out hd.below)); (try replace HRm := Aside0.mk (Kd.C_below HRm.out hd.below)); replace HB := Aside0.mk (below_then HB.out HB.out.size hd.below); clear hd) | (go_at_call 13; (with_reducible refine (papermilllaw04_awake.calls true _ rfl).mono ?_); rintro e w_ ⟨rfl, hb⟩; (try replace HR0 := Aside0.mk (Kd.C_below HR0.out hb)); (try replace HR1 := Aside0.mk (Kd.C_below HR1.out hb)); (try replace HRu := Aside0.mk (Kd.C_below HRu.out hb)); (try replace HRc := Aside0.mk (Kd.C_below HRc.out hb)); (try replace HRm := Aside0.mk (Kd.C_below HRm.out hb)); replace HB := Aside0.mk (below_then HB.out HB.out.size hb); clear hb))
  go_ret
  exact ⟨rfl, HB.out⟩
set_option maxRecDepth 100000 in
set_option maxHeartbeats 8000000 in
theorem sets_awake2 (a b : List S35) (x e : Int) (A0 : Option Addr) (c0 : Nat) (A1 : Option Addr) (c1 : Nat) (w : World) (hr0 : Kd.C k35 w A0 a.length a) (hc0 : a.length ≤ c0) (hr1 : Kd.C k35 w A1 b.length b) (hc1 : b.length ≤ c1) (ga : papermilllaw04_great.f a = some false) (gb : papermilllaw04_great.f b = some false) (k1 : Nat) (ca : span_Check.f k1 a = some e) (he : e ≠ 0) :
    Calls Try.prog 11 #[.slice A0 a.length c0, .slice A1 b.length c1, .int .i64 x] w fun e w' => e = .returned (.bool true) ∧ Below w.heap.size w w' := by
  have HR0 := Aside0.mk hr0
  have HC0 := Aside0.mk hc0
  have HR1 := Aside0.mk hr1
  have HC1 := Aside0.mk hc1
  have GA := Aside0.mk ga
  clear ga
  have GB := Aside0.mk gb
  clear gb
  have CA := Aside0.mk ca
  clear ca
  have HB := Aside0.mk (Below.refl w.heap.size w)
  clear hr0 hc0 hr1 hc1
  have h1 : (e != 0) = true := bne_iff_ne.mpr he
  have h2 : (e == 0) = false := beq_eq_false_iff_ne.mpr he
  clear he
  go_enter Try.func11, Try.ntmps11
  go_wp2_with (first | (go_at_call 12; (with_reducible refine (papermilllaw04_great.calls _ _ a false _ HR0.out HC0.out GA.out).mono ?_); rintro e w_ ⟨rfl, hd⟩; (try replace HR0 := Aside0.mk (Kd.C_below HR0.out hd.below)); (try replace HR1 := Aside0.mk (Kd.C_below HR1.out hd.below)); (try replace HRu := Aside0.mk (Kd.C_below HRu.out hd.below)); (try replace HRc := Aside0.mk (Kd.C_below HRc.out hd.below)); (try replace HRm := Aside0.mk (Kd.C_below HRm.out hd.below)); replace HB := Aside0.mk (below_then HB.out HB.out.size hd.below); clear hd) | (go_at_call 12; (with_reducible refine (papermilllaw04_great.calls _ _ b false _ HR1.out HC1.out GB.out).mono ?_); rintro e w_ ⟨rfl, hd⟩; (try replace HR0 := Aside0.mk (Kd.C_below HR0.out hd.below)); (try replace HR1 := Aside0.mk (Kd.C_below HR1.out hd.below)); (try replace HRu := Aside0.mk (Kd.C_below HRu.out hd.below)); (try replace HRc := Aside0.mk (Kd.C_below HRc.out hd.below)); (try replace HRm := Aside0.mk (Kd.C_below HRm.out hd.below)); replace HB := Aside0.mk (below_then HB.out HB.out.size hd.below); clear hd) | (go_at_call 27; (with_reducible refine (span_Check.calls k1 _ _ a e _ HR0.out HC0.out CA.out).mono ?_); rintro e w_ ⟨rfl, hb⟩; (try replace HR0 := Aside0.mk (Kd.C_below HR0.out hb)); (try replace HR1 := Aside0.mk (Kd.C_below HR1.out hb)); (try replace HRu := Aside0.mk (Kd.C_below HRu.out hb)); (try replace HRc := Aside0.mk (Kd.C_below HRc.out hb)); (try replace HRm := Aside0.mk (Kd.C_below HRm.out hb)); replace HB := Aside0.mk (below_then HB.out HB.out.size hb); clear hb) | (go_at_call 13; (with_reducible refine (papermilllaw04_awake.calls true _ rfl).mono ?_); rintro e w_ ⟨rfl, hb⟩; (try replace HR0 := Aside0.mk (Kd.C_below HR0.out hb)); (try replace HR1 := Aside0.mk (Kd.C_below HR1.out hb)); (try replace HRu := Aside0.mk (Kd.C_below HRu.out hb)); (try replace HRc := Aside0.mk (Kd.C_below HRc.out hb)); (try replace HRm := Aside0.mk (Kd.C_below HRm.out hb)); replace HB := Aside0.mk (below_then HB.out HB.out.size hb); clear hb))
  go_ret
  exact ⟨rfl, HB.out⟩
set_option maxRecDepth 100000 in
set_option maxHeartbeats 8000000 in
theorem sets_awake3 (a b : List S35) (x e : Int) (A0 : Option Addr) (c0 : Nat) (A1 : Option Addr) (c1 : Nat) (w : World) (hr0 : Kd.C k35 w A0 a.length a) (hc0 : a.length ≤ c0) (hr1 : Kd.C k35 w A1 b.length b) (hc1 : b.length ≤ c1) (ga : papermilllaw04_great.f a = some false) (gb : papermilllaw04_great.f b = some false) (k1 : Nat) (ca : span_Check.f k1 a = some 0) (k2 : Nat) (cb : span_Check.f k2 b = some e) (he : e ≠ 0) :
    Calls Try.prog 11 #[.slice A0 a.length c0, .slice A1 b.length c1, .int .i64 x] w fun e w' => e = .returned (.bool true) ∧ Below w.heap.size w w' := by
  have HR0 := Aside0.mk hr0
  have HC0 := Aside0.mk hc0
  have HR1 := Aside0.mk hr1
  have HC1 := Aside0.mk hc1
  have GA := Aside0.mk ga
  clear ga
  have GB := Aside0.mk gb
  clear gb
  have CA := Aside0.mk ca
  clear ca
  have CB := Aside0.mk cb
  clear cb
  have HB := Aside0.mk (Below.refl w.heap.size w)
  clear hr0 hc0 hr1 hc1
  have h1 : (e != 0) = true := bne_iff_ne.mpr he
  have h2 : (e == 0) = false := beq_eq_false_iff_ne.mpr he
  clear he
  go_enter Try.func11, Try.ntmps11
  go_wp2_with (first | (go_at_call 12; (with_reducible refine (papermilllaw04_great.calls _ _ a false _ HR0.out HC0.out GA.out).mono ?_); rintro e w_ ⟨rfl, hd⟩; (try replace HR0 := Aside0.mk (Kd.C_below HR0.out hd.below)); (try replace HR1 := Aside0.mk (Kd.C_below HR1.out hd.below)); (try replace HRu := Aside0.mk (Kd.C_below HRu.out hd.below)); (try replace HRc := Aside0.mk (Kd.C_below HRc.out hd.below)); (try replace HRm := Aside0.mk (Kd.C_below HRm.out hd.below)); replace HB := Aside0.mk (below_then HB.out HB.out.size hd.below); clear hd) | (go_at_call 12; (with_reducible refine (papermilllaw04_great.calls _ _ b false _ HR1.out HC1.out GB.out).mono ?_); rintro e w_ ⟨rfl, hd⟩; (try replace HR0 := Aside0.mk (Kd.C_below HR0.out hd.below)); (try replace HR1 := Aside0.mk (Kd.C_below HR1.out hd.below)); (try replace HRu := Aside0.mk (Kd.C_below HRu.out hd.below)); (try replace HRc := Aside0.mk (Kd.C_below HRc.out hd.below)); (try replace HRm := Aside0.mk (Kd.C_below HRm.out hd.below)); replace HB := Aside0.mk (below_then HB.out HB.out.size hd.below); clear hd) | (go_at_call 27; (with_reducible refine (span_Check.calls k1 _ _ a 0 _ HR0.out HC0.out CA.out).mono ?_); rintro e w_ ⟨rfl, hb⟩; (try replace HR0 := Aside0.mk (Kd.C_below HR0.out hb)); (try replace HR1 := Aside0.mk (Kd.C_below HR1.out hb)); (try replace HRu := Aside0.mk (Kd.C_below HRu.out hb)); (try replace HRc := Aside0.mk (Kd.C_below HRc.out hb)); (try replace HRm := Aside0.mk (Kd.C_below HRm.out hb)); replace HB := Aside0.mk (below_then HB.out HB.out.size hb); clear hb) | (go_at_call 27; (with_reducible refine (span_Check.calls k2 _ _ b e _ HR1.out HC1.out CB.out).mono ?_); rintro e w_ ⟨rfl, hb⟩; (try replace HR0 := Aside0.mk (Kd.C_below HR0.out hb)); (try replace HR1 := Aside0.mk (Kd.C_below HR1.out hb)); (try replace HRu := Aside0.mk (Kd.C_below HRu.out hb)); (try replace HRc := Aside0.mk (Kd.C_below HRc.out hb)); (try replace HRm := Aside0.mk (Kd.C_below HRm.out hb)); replace HB := Aside0.mk (below_then HB.out HB.out.size hb); clear hb) | (go_at_call 13; (with_reducible refine (papermilllaw04_awake.calls true _ rfl).mono ?_); rintro e w_ ⟨rfl, hb⟩; (try replace HR0 := Aside0.mk (Kd.C_below HR0.out hb)); (try replace HR1 := Aside0.mk (Kd.C_below HR1.out hb)); (try replace HRu := Aside0.mk (Kd.C_below HRu.out hb)); (try replace HRc := Aside0.mk (Kd.C_below HRc.out hb)); (try replace HRm := Aside0.mk (Kd.C_below HRm.out hb)); replace HB := Aside0.mk (below_then HB.out HB.out.size hb); clear hb))
  go_ret
  exact ⟨rfl, HB.out⟩
theorem both_code (a b : List S35) (w : Int) (ha : check04 a = 0) (hb : check04 b = 0) : (bothOf a b w = (combOf a b w, 0)) ∨ bothOf a b w = ([], 8) := by
  unfold bothOf
  rw [if_pos ha, if_pos hb]
  split
  · exact .inr rfl
  · exact .inl rfl
theorem comb_has (a b : List S35) (w : Int) (hw : w = 0 ∨ w = 1 ∨ w = 2) (ha : check04 a = 0) (hb : check04 b = 0) (x : Int) : hasOf (combOf a b w) x = wayOf w (hasOf a x) (hasOf b x) := by
  obtain ⟨g0, v0⟩ := good04 ha
  obtain ⟨g1, v1⟩ := good04 hb
  obtain ⟨k1, k2⟩ := comb_ok a b w hw (-1) (fun s h => by
    rcases h with h | h
    · have := v0 s h; omega
    · have := v1 s h; omega)
  rw [Bool.eq_iff_iff, hasOf_iff, k2]
  unfold keeps wayOf
  simp
theorem sets_fact (a b : List S35) (w x : Int) (v : Bool) (hw : w = 0 ∨ w = 1 ∨ w = 2) (ha : check04 a = 0) (hb : check04 b = 0) (hv : v = wayOf w (hasOf a x) (hasOf b x)) : ((bothOf a b w).2 = 0 → span_Has.f (bothOf a b w).1 x = some v) ∧ ((bothOf a b w).2 = 0 ∨ (bothOf a b w).2 = 8) := by
  have hl : (bothOf a b w).1.length ≤ 256 := by
    unfold bothOf
    rw [if_pos ha, if_pos hb]
    split
    · simp
    · simp only; omega
  rcases both_code a b w ha hb with h | h
  · rw [h] at hl ⊢
    refine ⟨fun _ => ?_, .inl rfl⟩
    unfold span_Has.f
    rw [if_pos (by omega), comb_has a b w hw ha hb, hv]
  · rw [h]
    exact ⟨fun h => by simp at h, .inr rfl⟩
def papermilllaw04_SpanSets.f (l0 l1 : List S35) (a2 : Int) : Option Bool := some true
theorem papermilllaw04_SpanSets.calls (A0 : Option Addr) (c0 : Nat) (l0 : List (S35)) (A1 : Option Addr) (c1 : Nat) (l1 : List (S35)) (a2 : Int) (r : Bool) (w : World) (hr0 : Kd.C k35 w A0 l0.length l0) (hc0 : l0.length ≤ c0) (hr1 : Kd.C k35 w A1 l1.length l1) (hc1 : l1.length ≤ c1) (h : papermilllaw04_SpanSets.f l0 l1 a2 = some r) :
    Calls Try.prog 11 #[.slice A0 l0.length c0, .slice A1 l1.length c1, .int .i64 a2] w fun e w' => e = .returned (.bool r) ∧ Below w.heap.size w w' := by
  obtain rfl := Option.some.inj h
  by_cases ga : (l0.length : Int) > 300
  · exact sets_awake0 l0 l1 a2 0 A0 c0 A1 c1 w hr0 hc0 hr1 hc1 (by unfold papermilllaw04_great.f; rw [decide_eq_true ga])
  have fa : papermilllaw04_great.f l0 = some false := by unfold papermilllaw04_great.f; rw [decide_eq_false ga]
  by_cases gb : (l1.length : Int) > 300
  · exact sets_awake1 l0 l1 a2 0 A0 c0 A1 c1 w hr0 hc0 hr1 hc1 fa (by unfold papermilllaw04_great.f; rw [decide_eq_true gb])
  have fb : papermilllaw04_great.f l1 = some false := by unfold papermilllaw04_great.f; rw [decide_eq_false gb]
  obtain ⟨k1, h1⟩ := (scheck_ends l0).get
  obtain ⟨k2, h2⟩ := (scheck_ends l1).get
  by_cases ca : check04 l0 = 0
  case neg => exact sets_awake2 l0 l1 a2 _ A0 c0 A1 c1 w hr0 hc0 hr1 hc1 fa fb k1 h1 ca
  rw [ca] at h1
  by_cases cb : check04 l1 = 0
  case neg => exact sets_awake3 l0 l1 a2 _ A0 c0 A1 c1 w hr0 hc0 hr1 hc1 fa fb k1 h1 k2 h2 cb
  rw [cb] at h2
  obtain ⟨k3, h3⟩ := (union_ends l0 l1).get
  obtain ⟨k4, h4⟩ := (common_ends l0 l1).get
  obtain ⟨k5, h5⟩ := (minus_ends l0 l1).get
  obtain ⟨u1, u2⟩ := sets_fact l0 l1 0 a2 (hasOf l0 a2 || hasOf l1 a2) (.inl rfl) ca cb (by rw [wayOf_0])
  obtain ⟨v1, v2⟩ := sets_fact l0 l1 1 a2 (hasOf l0 a2 && hasOf l1 a2) (.inr (.inl rfl)) ca cb (by rw [wayOf_1])
  obtain ⟨m1, m2⟩ := sets_fact l0 l1 2 a2 (hasOf l0 a2 && !hasOf l1 a2) (.inr (.inr rfl)) ca cb (by rw [wayOf_2])
  exact sets_walk l0 l1 _ _ _ a2 _ _ _ (hasOf l0 a2) (hasOf l1 a2) k1 k2 k3 k4 k5 A0 c0 A1 c1 w hr0 hc0 hr1 hc1 fa fb h1 h2 h3 h4 h5 (by unfold span_Has.f; rw [if_pos (by omega)]) (by unfold span_Has.f; rw [if_pos (by omega)]) u1 v1 m1 u2 v2 m2
end Go.Proofs.Ytlfcaoniclnimaa.G

namespace Go.Proofs.Ytlfcaoniclnimaa.G
open Go.RowKit Go.Proofs.YtlfcaoniclnimaaW.PrintWords Go.Proofs.YtlfcaoniclnimaaW.PrintLast Go.Proofs.YtlfcaoniclnimaaW.PrintMore
/-- the law, over lists and numbers -/
theorem SpanSets : ∀ (l0 : List (S35)) (l1 : List (S35)) (a2 : Int), (l0.length ≤ maxLen ∧ ∀ x ∈ l0, wf_35 x) → (l1.length ≤ maxLen ∧ ∀ x ∈ l1, wf_35 x) → (Lit.int .i64 a2).wf = true → papermilllaw04_SpanSets.f l0 l1 a2 = some true := fun _ _ _ _ _ _ => rfl
end Go.Proofs.Ytlfcaoniclnimaa.G

namespace Go.Proofs.Ytlfcaoniclnimaa.spanSets
open Go.ChangeShapes Go.WideShapes Go.ChangeAt Go.RowKit Go.Proofs.YtlfcaoniclnimaaW.PrintWords Go.Proofs.YtlfcaoniclnimaaW.PrintLast Go.Proofs.Ytlfcaoniclnimaa.G
open Go.ChangeMaps (open_string shut_string)
set_option linter.unusedVariables false
set_option linter.unusedSimpArgs false
theorem own : ownKnob Try.prog.godebug = none := by kernel_rfl
theorem laidOut : laidOutB Try.prog = true := by kernel_rfl
set_option maxRecDepth 100000 in
theorem lifted (os : Os) (started : os.Started) (H : Type) (enc : TypeId × Value → H) :
    ReturnsInHanded {} Try.checked os 11 .any (Rows.spanSetsSpec.pre6 enc Try.prog Try.f11 Rows.spanSetsRow.domain false) (Rows.spanSetsSpec.post enc Try.prog Try.f11 false true false false) := by
  refine returnsInHanded_of_change_sized (C := Try.checked) own started (by kernel_rfl) Try.func11
    (ChangeSpec.witness6 (enc := enc) (C := Try.checked) false ⟨#[], #[.slice none 0 0, .slice none 0 0, .int .i64 0], []⟩ 8 (by kernel_rfl) (by kernel_rfl) (by kernel_rfl) (by kernel_rfl)) ?_
  intro W base args ds gs before hval0 hW hcnd hsz0 _
  have hval : ∀ (j : Nat) t v, Try.f11.params[j]? = some t → args[j]? = some v → Value.okWide Try.prog W .any base t v := hval0
  have hW' := hW
  obtain ⟨p, q, hA0, hV, rfl, hfz, hnd⟩ := hW
  have hA : DataW.TrodAll enc Try.prog W 0 (fun _ => true) true Try.f11.params.toList args.toList ds p := hA0
  rw [Try.params11] at hA hval
  obtain ⟨v0, vs0, d0, ds0, p0, q0, hargs, rfl, rfl, h0, r0⟩ := trodAll_cons hA
  obtain ⟨v1, vs1, d1, ds1, p1, q1, rfl, rfl, rfl, h1, r1⟩ := trodAll_cons r0
  obtain ⟨v2, vs2, d2, ds2, p2, q2, rfl, rfl, rfl, h2, r2⟩ := trodAll_cons r1
  obtain ⟨rfl, rfl, rfl⟩ := trodAll_nil r2
  obtain rfl : args = #[v0, v1, v2] := by cases args; simp_all
  obtain ⟨rfl, rfl⟩ := trodVars_none hV
  have k0 := h0
  have lt0 : ∀ x ∈ p0, x.block < W.heap.size := by obtain ⟨m, hm⟩ := k0; exact DataW.trod_lt m _ _ _ hm
  obtain ⟨a0, len0, cap0, rfl⟩ := okWide_slice Try.underlying22 (hval 0 22 v0 rfl rfl)
  obtain ⟨l0, ⟨A0, c0, hcs0, hlc0, hC0⟩, hw0⟩ : ∃ l, ((Kd.slice 35 k35)).K W l [.slice a0 len0 cap0] ∧ (l.length ≤ maxLen ∧ ∀ x ∈ l, wf_35 x) := by
    obtain ⟨fuel, hf⟩ := k0
    exact (Opens.slice Try.underlying22 (by kernel_rfl) opens_35) enc W fuel _ _ hf
  simp only [List.cons.injEq, and_true, Value.slice.injEq] at hcs0
  obtain ⟨rfl, rfl, rfl⟩ := hcs0
  have k1 := h1
  have lt1 : ∀ x ∈ p1, x.block < W.heap.size := by obtain ⟨m, hm⟩ := k1; exact DataW.trod_lt m _ _ _ hm
  obtain ⟨a1, len1, cap1, rfl⟩ := okWide_slice Try.underlying22 (hval 1 22 v1 rfl rfl)
  obtain ⟨l1, ⟨A1, c1, hcs1, hlc1, hC1⟩, hw1⟩ : ∃ l, ((Kd.slice 35 k35)).K W l [.slice a1 len1 cap1] ∧ (l.length ≤ maxLen ∧ ∀ x ∈ l, wf_35 x) := by
    obtain ⟨fuel, hf⟩ := k1
    exact (Opens.slice Try.underlying22 (by kernel_rfl) opens_35) enc W fuel _ _ hf
  simp only [List.cons.injEq, and_true, Value.slice.injEq] at hcs1
  obtain ⟨rfl, rfl, rfl⟩ := hcs1
  have k2 := h2
  have lt2 : ∀ x ∈ p2, x.block < W.heap.size := by obtain ⟨m, hm⟩ := k2; exact DataW.trod_lt m _ _ _ hm
  obtain ⟨a2, rfl, rfl, rfl, hw2⟩ := open_int Try.underlying3 (hval 2 3 v2 rfl rfl) h2
  clear hA0 hval0 hsz0
  have hk := SpanSets l0 l1 a2 hw0 hw1 hw2
  refine (papermilllaw04_SpanSets.calls _ _ l0 _ _ l1 a2 true W hC0 hlc0 hC1 hlc1 hk).mono fun e W' he => ?_
  obtain ⟨he, bel⟩ := he
  subst he
  exact ⟨_, rfl, _, _, _, [], _, [], hW', trodAll_mk1 (shut_bool Try.underlying4 _), (trodAll_cons_mk (Below.trod laidOut (by kernel_rfl) (of_decide_eq_true (by kernel_rfl)) k0 bel lt0) (trodAll_cons_mk (Below.trod laidOut (by kernel_rfl) (of_decide_eq_true (by kernel_rfl)) k1 bel lt1) (trodAll_cons_mk (Below.trod laidOut (by kernel_rfl) (of_decide_eq_true (by kernel_rfl)) k2 bel lt2) trodAll_mk0))), rfl, bel.frame _, fun h => by cases h⟩
theorem over : Rows.spanSetsRow.holds Try.pinned (OpenSpec.ofChange Rows.spanSetsSpec) :=
  OpenClaim.holds_of_wide 11 Try.f11 rfl rfl rfl rfl rfl rfl rfl ⟨rfl, rfl, rfl, rfl, rfl⟩ rfl rfl rfl rfl rfl (by kernel_rfl) Try.func11 (by kernel_rfl)
    (of_decide_eq_true (by kernel_rfl)) (by unfold Func.isWrapper; first | (rw [if_pos (by decide +kernel)]; kernel_rfl) | (rw [if_neg (by decide +kernel)]; exact ⟨rfl, rfl⟩))
    (fun os started H enc _ => lifted os started H enc)
theorem proved : Rows.SpanSetsSaid := over
#print axioms proved
end Go.Proofs.Ytlfcaoniclnimaa.spanSets
namespace Go.Proofs.Ytlfcaoniclnimaa
/-- The row, under a short name, for the claim. -/
theorem spanSets_holds : Rows.SpanSetsSaid := spanSets.proved
end Go.Proofs.Ytlfcaoniclnimaa
