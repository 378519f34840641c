/- The law SpanCounts: whatever it is handed, it returns true, and what it is handed reads as before. No conditions. -/
import Derived.Test.YtlfcaoniclnimaaM4
import Derived.Test.YtlfcaoniclnimaaM1
import Derived.Deep.LoopGhost
import Derived.StillTailTactics
import Derived.RangeFuncRecord
import Derived.Test.YtlfcaoniclnimaaRows
import Derived.WalkKit
import Derived.ProofKit
import Derived.OpenShut
import Derived.ShutString
import Derived.ChangeOld
import Derived.Below
import Derived.SizedLaws
namespace Go.Proofs.Ytlfcaoniclnimaa.G
open Go.RowKit Go.Proofs.YtlfcaoniclnimaaW.PrintWords Go.Proofs.YtlfcaoniclnimaaW.PrintLast Go.Proofs.YtlfcaoniclnimaaW.PrintMore
attribute [local go_sem] max2_int min2_int max_two min_two max_three min_three max_four min_four   -- for this text's walks alone
set_option linter.unusedVariables false
set_option linter.unusedSimpArgs false
set_option maxRecDepth 100000 in
set_option maxHeartbeats 8000000 in
theorem counts_great0 (a b : List S35) (A0 : Option Addr) (c0 : Nat) (A1 : Option Addr) (c1 : Nat) (w : World) (hr0 : Kd.C k35 w A0 a.length a) (hc0 : a.length ≤ c0) (hr1 : Kd.C k35 w A1 b.length b) (hc1 : b.length ≤ c1) (ga : papermilllaw04_great.f a = some true)  :
    Calls Try.prog 7 #[.slice A0 a.length c0, .slice A1 b.length c1] w fun e w' => e = .returned (.bool true) ∧ Below w.heap.size w w' := by
  have HR0 := Aside0.mk hr0
  have HC0 := Aside0.mk hc0
  have HR1 := Aside0.mk hr1
  have HC1 := Aside0.mk hc1
  have HB := Aside0.mk (Below.refl w.heap.size w)
  clear hr0 hc0 hr1 hc1
  have GA := Aside0.mk ga
  clear ga
  go_enter Try.func7, Try.ntmps7
  go_wp2_with (first | (go_at_call 12; (with_reducible refine (papermilllaw04_great.calls _ _ a true _ HR0.out HC0.out GA.out).mono ?_); rintro e w_ ⟨rfl, hd⟩; (try replace HR0 := Aside0.mk (Kd.C_below HR0.out hd.below)); (try replace HR1 := Aside0.mk (Kd.C_below HR1.out hd.below)); (try replace HRu := Aside0.mk (Kd.C_below HRu.out hd.below)); (try replace HRc := Aside0.mk (Kd.C_below HRc.out hd.below)); (try replace HRm := Aside0.mk (Kd.C_below HRm.out hd.below)); replace HB := Aside0.mk (below_then HB.out HB.out.size hd.below); clear hd) | (go_at_call 13; (with_reducible refine (papermilllaw04_awake.calls true _ rfl).mono ?_); rintro e w_ ⟨rfl, hb⟩; (try replace HR0 := Aside0.mk (Kd.C_below HR0.out hb)); (try replace HR1 := Aside0.mk (Kd.C_below HR1.out hb)); (try replace HRu := Aside0.mk (Kd.C_below HRu.out hb)); (try replace HRc := Aside0.mk (Kd.C_below HRc.out hb)); (try replace HRm := Aside0.mk (Kd.C_below HRm.out hb)); replace HB := Aside0.mk (below_then HB.out HB.out.size hb); clear hb))
  go_ret
  exact ⟨rfl, HB.out⟩
set_option maxRecDepth 100000 in
set_option maxHeartbeats 8000000 in
theorem counts_great1 (a b : List S35) (A0 : Option Addr) (c0 : Nat) (A1 : Option Addr) (c1 : Nat) (w : World) (hr0 : Kd.C k35 w A0 a.length a) (hc0 : a.length ≤ c0) (hr1 : Kd.C k35 w A1 b.length b) (hc1 : b.length ≤ c1) (ga : papermilllaw04_great.f a = some false) (gb : papermilllaw04_great.f b = some true) :
    Calls Try.prog 7 #[.slice A0 a.length c0, .slice A1 b.length c1] w fun e w' => e = .returned (.bool true) ∧ Below w.heap.size w w' := by
  have HR0 := Aside0.mk hr0
  have HC0 := Aside0.mk hc0
  have HR1 := Aside0.mk hr1
  have HC1 := Aside0.mk hc1
  have HB := Aside0.mk (Below.refl w.heap.size w)
  clear hr0 hc0 hr1 hc1
  have GA := Aside0.mk ga
  clear ga
  have GB := Aside0.mk gb
  clear gb
  go_enter Try.func7, Try.ntmps7
  go_wp2_with (first | (go_at_call 12; (with_reducible refine (papermilllaw04_great.calls _ _ a false _ HR0.out HC0.out GA.out).mono ?_); rintro e w_ ⟨rfl, hd⟩; (try replace HR0 := Aside0.mk (Kd.C_below HR0.out hd.below)); (try replace HR1 := Aside0.mk (Kd.C_below HR1.out hd.below)); (try replace HRu := Aside0.mk (Kd.C_below HRu.out hd.below)); (try replace HRc := Aside0.mk (Kd.C_below HRc.out hd.below)); (try replace HRm := Aside0.mk (Kd.C_below HRm.out hd.below)); replace HB := Aside0.mk (below_then HB.out HB.out.size hd.below); clear hd) | (go_at_call 12; (with_reducible refine (papermilllaw04_great.calls _ _ b true _ HR1.out HC1.out GB.out).mono ?_); rintro e w_ ⟨rfl, hd⟩; (try replace HR0 := Aside0.mk (Kd.C_below HR0.out hd.below)); (try replace HR1 := Aside0.mk (Kd.C_below HR1.out hd.below)); (try replace HRu := Aside0.mk (Kd.C_below HRu.out hd.below)); (try replace HRc := Aside0.mk (Kd.C_below HRc.out hd.below)); (try replace HRm := Aside0.mk (Kd.C_below HRm.out hd.below)); replace HB := Aside0.mk (below_then HB.out HB.out.size hd.below); clear hd) | (go_at_call 13; (with_reducible refine (papermilllaw04_awake.calls true _ rfl).mono ?_); rintro e w_ ⟨rfl, hb⟩; (try replace HR0 := Aside0.mk (Kd.C_below HR0.out hb)); (try replace HR1 := Aside0.mk (Kd.C_below HR1.out hb)); (try replace HRu := Aside0.mk (Kd.C_below HRu.out hb)); (try replace HRc := Aside0.mk (Kd.C_below HRc.out hb)); (try replace HRm := Aside0.mk (Kd.C_below HRm.out hb)); replace HB := Aside0.mk (below_then HB.out HB.out.size hb); clear hb))
  go_ret
  exact ⟨rfl, HB.out⟩
set_option maxRecDepth 100000 in
set_option maxHeartbeats 16000000 in
theorem counts_err (a b : List S35) (A0 : Option Addr) (c0 : Nat) (A1 : Option Addr) (c1 : Nat) (w : World) (hr0 : Kd.C k35 w A0 a.length a) (hc0 : a.length ≤ c0) (hr1 : Kd.C k35 w A1 b.length b) (hc1 : b.length ≤ c1) (u c m : List S35) (eu ec em : Int) (k3 k4 k5 : Nat) (ga : papermilllaw04_great.f a = some false) (gb : papermilllaw04_great.f b = some false) (hu : span_Union.f k3 a b = some (u, eu)) (hc : span_Common.f k4 a b = some (c, ec)) (hm : span_Minus.f k5 a b = some (m, em)) (he : ¬ eu = 0 ∨ (eu = 0 ∧ ¬ ec = 0) ∨ (eu = 0 ∧ ec = 0 ∧ ¬ em = 0)) :
    Calls Try.prog 7 #[.slice A0 a.length c0, .slice A1 b.length c1] w fun e w' => e = .returned (.bool true) ∧ Below w.heap.size w w' := by
  have HR0 := Aside0.mk hr0
  have HC0 := Aside0.mk hc0
  have HR1 := Aside0.mk hr1
  have HC1 := Aside0.mk hc1
  have HB := Aside0.mk (Below.refl w.heap.size w)
  clear hr0 hc0 hr1 hc1
  have GA := Aside0.mk ga
  have GB := Aside0.mk gb
  have HU := Aside0.mk hu
  have HC := Aside0.mk hc
  have HM := Aside0.mk hm
  clear ga gb hu hc hm
  rcases he with he | ⟨rfl, he⟩ | ⟨rfl, rfl, he⟩
  all_goals
    have h1 := bne_iff_ne.mpr he
    have h2 := beq_eq_false_iff_ne.mpr he
    clear he
    go_enter Try.func7, Try.ntmps7
    go_wp2_with (first | (go_at_call 12; (with_reducible refine (papermilllaw04_great.calls _ _ a false _ HR0.out HC0.out GA.out).mono ?_); rintro e w_ ⟨rfl, hd⟩; (try replace HR0 := Aside0.mk (Kd.C_below HR0.out hd.below)); (try replace HR1 := Aside0.mk (Kd.C_below HR1.out hd.below)); (try replace HRu := Aside0.mk (Kd.C_below HRu.out hd.below)); (try replace HRc := Aside0.mk (Kd.C_below HRc.out hd.below)); (try replace HRm := Aside0.mk (Kd.C_below HRm.out hd.below)); replace HB := Aside0.mk (below_then HB.out HB.out.size hd.below); clear hd) | (go_at_call 12; (with_reducible refine (papermilllaw04_great.calls _ _ b false _ HR1.out HC1.out GB.out).mono ?_); rintro e w_ ⟨rfl, hd⟩; (try replace HR0 := Aside0.mk (Kd.C_below HR0.out hd.below)); (try replace HR1 := Aside0.mk (Kd.C_below HR1.out hd.below)); (try replace HRu := Aside0.mk (Kd.C_below HRu.out hd.below)); (try replace HRc := Aside0.mk (Kd.C_below HRc.out hd.below)); (try replace HRm := Aside0.mk (Kd.C_below HRm.out hd.below)); replace HB := Aside0.mk (below_then HB.out HB.out.size hd.below); clear hd) | (go_at_call 21; (with_reducible refine (span_Union.calls k3 _ _ a _ _ b u _ _ HR0.out HC0.out HR1.out HC1.out HU.out).mono ?_); rintro e w_ ⟨vu, rfl, ho, hb⟩; obtain ⟨Au, cu, eu, hc_, hr_⟩ := Kd.R_reads ho; subst eu; clear ho; (try replace HR0 := Aside0.mk (Kd.C_below HR0.out hb)); (try replace HR1 := Aside0.mk (Kd.C_below HR1.out hb)); (try replace HRu := Aside0.mk (Kd.C_below HRu.out hb)); (try replace HRc := Aside0.mk (Kd.C_below HRc.out hb)); (try replace HRm := Aside0.mk (Kd.C_below HRm.out hb)); replace HB := Aside0.mk (below_then HB.out HB.out.size hb); have HRu := Aside0.mk hr_; have HCu := Aside0.mk hc_; clear hr_ hc_ hb) | (go_at_call 23; (with_reducible refine (span_Common.calls k4 _ _ a _ _ b c _ _ HR0.out HC0.out HR1.out HC1.out HC.out).mono ?_); rintro e w_ ⟨vc, rfl, ho, hb⟩; obtain ⟨Ac, cc, ec, hc_, hr_⟩ := Kd.R_reads ho; subst ec; clear ho; (try replace HR0 := Aside0.mk (Kd.C_below HR0.out hb)); (try replace HR1 := Aside0.mk (Kd.C_below HR1.out hb)); (try replace HRu := Aside0.mk (Kd.C_below HRu.out hb)); (try replace HRc := Aside0.mk (Kd.C_below HRc.out hb)); (try replace HRm := Aside0.mk (Kd.C_below HRm.out hb)); replace HB := Aside0.mk (below_then HB.out HB.out.size hb); have HRc := Aside0.mk hr_; have HCc := Aside0.mk hc_; clear hr_ hc_ hb) | (go_at_call 25; (with_reducible refine (span_Minus.calls k5 _ _ a _ _ b m _ _ HR0.out HC0.out HR1.out HC1.out HM.out).mono ?_); rintro e w_ ⟨vm, rfl, ho, hb⟩; obtain ⟨Am, cm, em, hc_, hr_⟩ := Kd.R_reads ho; subst em; clear ho; (try replace HR0 := Aside0.mk (Kd.C_below HR0.out hb)); (try replace HR1 := Aside0.mk (Kd.C_below HR1.out hb)); (try replace HRu := Aside0.mk (Kd.C_below HRu.out hb)); (try replace HRc := Aside0.mk (Kd.C_below HRc.out hb)); (try replace HRm := Aside0.mk (Kd.C_below HRm.out hb)); replace HB := Aside0.mk (below_then HB.out HB.out.size hb); have HRm := Aside0.mk hr_; have HCm := Aside0.mk hc_; clear hr_ hc_ hb) | (go_at_call 13; (with_reducible refine (papermilllaw04_awake.calls true _ rfl).mono ?_); rintro e w_ ⟨rfl, hb⟩; (try replace HR0 := Aside0.mk (Kd.C_below HR0.out hb)); (try replace HR1 := Aside0.mk (Kd.C_below HR1.out hb)); (try replace HRu := Aside0.mk (Kd.C_below HRu.out hb)); (try replace HRc := Aside0.mk (Kd.C_below HRc.out hb)); (try replace HRm := Aside0.mk (Kd.C_below HRm.out hb)); replace HB := Aside0.mk (below_then HB.out HB.out.size hb); clear hb))
    go_ret
    exact ⟨rfl, HB.out⟩
theorem cnt_cell {w w' : World} {g : Nat} {a : Addr} {v : Value} (hk : KeepBut w w' g none) (hg : a.block ≠ g) (h : w.cell? a = some v) : w'.cell? a = some v := by
  have hlt := World.block_lt_of_cell? w a h
  have he := hk.2 a.block hlt hg (by simp)
  unfold World.cell? at h ⊢
  rw [he]
  exact h
theorem cnt_add_block (a : Addr) (j : Nat) : (a.add j).block = a.block := by unfold Addr.add; split <;> rfl
theorem cnt_lt {W : World} {ad : Addr} {n : Nat} {xs : List S35} (h : Kd.C k35 W (some ad) n xs) (hn : 0 < n) : ad.block < W.heap.size := by
  obtain ⟨a', e, h0, _⟩ := at_T35 h 0 (by omega) (by omega)
  injection e with e
  subst e
  have := World.block_lt_of_cell? W _ h0
  rwa [cnt_add_block] at this
theorem cnt_foot {w : World} {A : Option Addr} {n : Nat} {xs : List S35} {g : Nat} (h : Kd.C k35 w A n xs) (hf : ∀ ad, A = some ad → 0 < n → ad.block ≠ g) : ∀ W', KeepBut w W' g none → Kd.C k35 W' A n xs := by
  intro W' hk
  refine ⟨h.1, h.2.1, fun hn => ?_⟩
  obtain ⟨ad, e, H⟩ := h.2.2 hn
  refine ⟨ad, e, fun j p hj => ?_⟩
  obtain ⟨c, hl, hK, hc⟩ := H j p hj
  exact ⟨c, hl, hK, fun q u hu => cnt_cell hk (by rw [cnt_add_block]; exact hf ad e hn) (hc q u hu)⟩
theorem cnt_set {w w1 : World} {g : Nat} (h : KeepBut w w1 g none) (j : Nat) (u : Value) : KeepBut w (w1.setCell ⟨g, j, none⟩ u) g none :=
  ⟨by simpa [World.setCell] using h.1, fun i hi hg hr => (Below.heap_setCell w1 ⟨g, j, none⟩ u i hg).trans (h.2 i hi hg hr)⟩
def cntCells (ta tb tu tc tm : Int) : Nat → Array Value
  | 0 => #[.int .i64 0, .int .i64 0, .int .i64 0, .int .i64 0, .int .i64 0]
  | 1 => #[.int .i64 ta, .int .i64 0, .int .i64 0, .int .i64 0, .int .i64 0]
  | 2 => #[.int .i64 ta, .int .i64 tb, .int .i64 0, .int .i64 0, .int .i64 0]
  | 3 => #[.int .i64 ta, .int .i64 tb, .int .i64 tu, .int .i64 0, .int .i64 0]
  | 4 => #[.int .i64 ta, .int .i64 tb, .int .i64 tu, .int .i64 tc, .int .i64 0]
  | _ => #[.int .i64 ta, .int .i64 tb, .int .i64 tu, .int .i64 tc, .int .i64 tm]
def cntAt (i : Value) : Nat → Prop
  | 0 => i = .int .i64 0
  | 1 => i = .int .i64 1
  | 2 => i = .int .i64 2
  | 3 => i = .int .i64 3
  | 4 => i = .int .i64 4
  | _ => i = .int .i64 5
set_option maxRecDepth 100000 in
set_option maxHeartbeats 16000000 in
theorem counts_walk (a b : List S35) (A0 : Option Addr) (c0 : Nat) (A1 : Option Addr) (c1 : Nat) (w : World) (hr0 : Kd.C k35 w A0 a.length a) (hc0 : a.length ≤ c0) (hr1 : Kd.C k35 w A1 b.length b) (hc1 : b.length ≤ c1) (u c m : List S35)  (k3 k4 k5 : Nat) (ga : papermilllaw04_great.f a = some false) (gb : papermilllaw04_great.f b = some false) (hu : span_Union.f k3 a b = some (u, 0)) (hc : span_Common.f k4 a b = some (c, 0)) (hm : span_Minus.f k5 a b = some (m, 0)) (ta tb tu tc tm : Int) (kt0 kt1 kt2 kt3 kt4 : Nat) (t0 : span_Total.f kt0 a = some (ta, 0)) (t1 : span_Total.f kt1 b = some (tb, 0)) (t2 : span_Total.f kt2 u = some (tu, 0)) (t3 : span_Total.f kt3 c = some (tc, 0)) (t4 : span_Total.f kt4 m = some (tm, 0))
    (ba : 0 ≤ ta ∧ ta ≤ 1125899906842624) (bb : 0 ≤ tb ∧ tb ≤ 1125899906842624) (bu : 0 ≤ tu ∧ tu ≤ 1125899906842624) (bc : 0 ≤ tc ∧ tc ≤ 1125899906842624) (bm : 0 ≤ tm ∧ tm ≤ 1125899906842624) (e1 : ta + tb = tu + tc) (e2 : ta = tc + tm) :
    Calls Try.prog 7 #[.slice A0 a.length c0, .slice A1 b.length c1] w fun e w' => e = .returned (.bool true) ∧ Below w.heap.size w w' := by
  have HR0 := Aside0.mk hr0
  have HC0 := Aside0.mk hc0
  have HR1 := Aside0.mk hr1
  have HC1 := Aside0.mk hc1
  have HB := Aside0.mk (Below.refl w.heap.size w)
  clear hr0 hc0 hr1 hc1
  have GA := Aside0.mk ga
  have GB := Aside0.mk gb
  have HU := Aside0.mk hu
  have HC := Aside0.mk hc
  have HM := Aside0.mk hm
  clear ga gb hu hc hm
  have HT0 := Aside0.mk t0
  have HT1 := Aside0.mk t1
  have HT2 := Aside0.mk t2
  have HT3 := Aside0.mk t3
  have HT4 := Aside0.mk t4
  have E1 := Aside0.mk e1
  have E2 := Aside0.mk e2
  have BA := Aside0.mk ba
  have BB := Aside0.mk bb
  have BU := Aside0.mk bu
  have BC := Aside0.mk bc
  have BM := Aside0.mk bm
  clear t0 t1 t2 t3 t4 e1 e2 ba bb bu bc bm
  have hmk : ∀ W : World, (Instr.makeSlice 38 (.int .i64 5) (.int .i64 5)).run Try.prog W = .ok (.slice (some ⟨W.heap.size, 0, none⟩) 5 5) (W.alloc (.cells #[.int .i64 0, .int .i64 0, .int .i64 0, .int .i64 0, .int .i64 0] 3)) := fun W => (run_make_row' 38 3 (.int .i64 0) 8 Try.underlying38 info3 rfl .i64 .i64 5 (by decide) (by decide) W).trans (congrArg (fun c => Result.ok _ (W.alloc (.cells c 3))) (show madeCells #[Value.int .i64 0] 5 = #[.int .i64 0, .int .i64 0, .int .i64 0, .int .i64 0, .int .i64 0] by kernel_rfl))
  go_enter Try.func7, Try.ntmps7
  go_wp2_with (first | (go_at_call 12; (with_reducible refine (papermilllaw04_great.calls _ _ a false _ HR0.out HC0.out GA.out).mono ?_); rintro e w_ ⟨rfl, hd⟩; (try replace HR0 := Aside0.mk (Kd.C_below HR0.out hd.below)); (try replace HR1 := Aside0.mk (Kd.C_below HR1.out hd.below)); (try replace HRu := Aside0.mk (Kd.C_below HRu.out hd.below)); (try replace HRc := Aside0.mk (Kd.C_below HRc.out hd.below)); (try replace HRm := Aside0.mk (Kd.C_below HRm.out hd.below)); replace HB := Aside0.mk (below_then HB.out HB.out.size hd.below); clear hd) | (go_at_call 12; (with_reducible refine (papermilllaw04_great.calls _ _ b false _ HR1.out HC1.out GB.out).mono ?_); rintro e w_ ⟨rfl, hd⟩; (try replace HR0 := Aside0.mk (Kd.C_below HR0.out hd.below)); (try replace HR1 := Aside0.mk (Kd.C_below HR1.out hd.below)); (try replace HRu := Aside0.mk (Kd.C_below HRu.out hd.below)); (try replace HRc := Aside0.mk (Kd.C_below HRc.out hd.below)); (try replace HRm := Aside0.mk (Kd.C_below HRm.out hd.below)); replace HB := Aside0.mk (below_then HB.out HB.out.size hd.below); clear hd) | (go_at_call 21; (with_reducible refine (span_Union.calls k3 _ _ a _ _ b u _ _ HR0.out HC0.out HR1.out HC1.out HU.out).mono ?_); rintro e w_ ⟨vu, rfl, ho, hb⟩; obtain ⟨Au, cu, eu, hc_, hr_⟩ := Kd.R_reads ho; subst eu; clear ho; (try replace HR0 := Aside0.mk (Kd.C_below HR0.out hb)); (try replace HR1 := Aside0.mk (Kd.C_below HR1.out hb)); (try replace HRu := Aside0.mk (Kd.C_below HRu.out hb)); (try replace HRc := Aside0.mk (Kd.C_below HRc.out hb)); (try replace HRm := Aside0.mk (Kd.C_below HRm.out hb)); replace HB := Aside0.mk (below_then HB.out HB.out.size hb); have HRu := Aside0.mk hr_; have HCu := Aside0.mk hc_; clear hr_ hc_ hb) | (go_at_call 23; (with_reducible refine (span_Common.calls k4 _ _ a _ _ b c _ _ HR0.out HC0.out HR1.out HC1.out HC.out).mono ?_); rintro e w_ ⟨vc, rfl, ho, hb⟩; obtain ⟨Ac, cc, ec, hc_, hr_⟩ := Kd.R_reads ho; subst ec; clear ho; (try replace HR0 := Aside0.mk (Kd.C_below HR0.out hb)); (try replace HR1 := Aside0.mk (Kd.C_below HR1.out hb)); (try replace HRu := Aside0.mk (Kd.C_below HRu.out hb)); (try replace HRc := Aside0.mk (Kd.C_below HRc.out hb)); (try replace HRm := Aside0.mk (Kd.C_below HRm.out hb)); replace HB := Aside0.mk (below_then HB.out HB.out.size hb); have HRc := Aside0.mk hr_; have HCc := Aside0.mk hc_; clear hr_ hc_ hb) | (go_at_call 25; (with_reducible refine (span_Minus.calls k5 _ _ a _ _ b m _ _ HR0.out HC0.out HR1.out HC1.out HM.out).mono ?_); rintro e w_ ⟨vm, rfl, ho, hb⟩; obtain ⟨Am, cm, em, hc_, hr_⟩ := Kd.R_reads ho; subst em; clear ho; (try replace HR0 := Aside0.mk (Kd.C_below HR0.out hb)); (try replace HR1 := Aside0.mk (Kd.C_below HR1.out hb)); (try replace HRu := Aside0.mk (Kd.C_below HRu.out hb)); (try replace HRc := Aside0.mk (Kd.C_below HRc.out hb)); (try replace HRm := Aside0.mk (Kd.C_below HRm.out hb)); replace HB := Aside0.mk (below_then HB.out HB.out.size hb); have HRm := Aside0.mk hr_; have HCm := Aside0.mk hc_; clear hr_ hc_ hb))
  have HN0 := Aside0.mk (blk_alloc (World.alloc_heap_new w_ (.cells #[.int .i64 0, .int .i64 0, .int .i64 0, .int .i64 0, .int .i64 0] 3)) (.cells #[.slice A0 a.length c0, .slice A1 b.length c1, .slice Au u.length cu, .slice Ac c.length cc, .slice Am m.length cm] 22))
  have HL0 : Aside0 (((w_.alloc (.cells #[.int .i64 0, .int .i64 0, .int .i64 0, .int .i64 0, .int .i64 0] 3)).alloc (.cells #[.slice A0 a.length c0, .slice A1 b.length c1, .slice Au u.length cu, .slice Ac c.length cc, .slice Am m.length cm] 22)).heap[w_.heap.size + 1]? = some (.cells #[.slice A0 a.length c0, .slice A1 b.length c1, .slice Au u.length cu, .slice Ac c.length cc, .slice Am m.length cm] 22 (0, 0))) := ⟨by have h_ := World.alloc_heap_new (w_.alloc (.cells #[.int .i64 0, .int .i64 0, .int .i64 0, .int .i64 0, .int .i64 0] 3)) (.cells #[.slice A0 a.length c0, .slice A1 b.length c1, .slice Au u.length cu, .slice Ac c.length cc, .slice Am m.length cm] 22); simp only [World.size_alloc] at h_; exact h_⟩
  have F0 := Aside0.mk (cnt_foot (g := w_.heap.size) (Kd.C_alloc (Kd.C_alloc HR0.out (.cells #[.int .i64 0, .int .i64 0, .int .i64 0, .int .i64 0, .int .i64 0] 3)) (.cells #[.slice A0 a.length c0, .slice A1 b.length c1, .slice Au u.length cu, .slice Ac c.length cc, .slice Am m.length cm] 22)) (fun ad e hn => by subst e; have := cnt_lt HR0.out hn; omega))
  have F1 := Aside0.mk (cnt_foot (g := w_.heap.size) (Kd.C_alloc (Kd.C_alloc HR1.out (.cells #[.int .i64 0, .int .i64 0, .int .i64 0, .int .i64 0, .int .i64 0] 3)) (.cells #[.slice A0 a.length c0, .slice A1 b.length c1, .slice Au u.length cu, .slice Ac c.length cc, .slice Am m.length cm] 22)) (fun ad e hn => by subst e; have := cnt_lt HR1.out hn; omega))
  have F2 := Aside0.mk (cnt_foot (g := w_.heap.size) (Kd.C_alloc (Kd.C_alloc HRu.out (.cells #[.int .i64 0, .int .i64 0, .int .i64 0, .int .i64 0, .int .i64 0] 3)) (.cells #[.slice A0 a.length c0, .slice A1 b.length c1, .slice Au u.length cu, .slice Ac c.length cc, .slice Am m.length cm] 22)) (fun ad e hn => by subst e; have := cnt_lt HRu.out hn; omega))
  have F3 := Aside0.mk (cnt_foot (g := w_.heap.size) (Kd.C_alloc (Kd.C_alloc HRc.out (.cells #[.int .i64 0, .int .i64 0, .int .i64 0, .int .i64 0, .int .i64 0] 3)) (.cells #[.slice A0 a.length c0, .slice A1 b.length c1, .slice Au u.length cu, .slice Ac c.length cc, .slice Am m.length cm] 22)) (fun ad e hn => by subst e; have := cnt_lt HRc.out hn; omega))
  have F4 := Aside0.mk (cnt_foot (g := w_.heap.size) (Kd.C_alloc (Kd.C_alloc HRm.out (.cells #[.int .i64 0, .int .i64 0, .int .i64 0, .int .i64 0, .int .i64 0] 3)) (.cells #[.slice A0 a.length c0, .slice A1 b.length c1, .slice Au u.length cu, .slice Ac c.length cc, .slice Am m.length cm] 22)) (fun ad e hn => by subst e; have := cnt_lt HRm.out hn; omega))
  have HBW := Aside0.mk (below_alloc (below_alloc HB.out (.cells #[.int .i64 0, .int .i64 0, .int .i64 0, .int .i64 0, .int .i64 0] 3)) (.cells #[.slice A0 a.length c0, .slice A1 b.length c1, .slice Au u.length cu, .slice Ac c.length cc, .slice Am m.length cm] 22))
  have HWn := Aside0.mk (show w.heap.size ≤ w_.heap.size from HB.out.size)
  clear hmk HR0 HR1 HRu HRc HRm HB
  generalize ((w_.alloc (.cells #[.int .i64 0, .int .i64 0, .int .i64 0, .int .i64 0, .int .i64 0] 3)).alloc (.cells #[.slice A0 a.length c0, .slice A1 b.length c1, .slice Au u.length cu, .slice Ac c.length cc, .slice Am m.length cm] 22)) = W0 at *
  generalize w_.heap.size = gn at *
  go_loopw [13] (fun i wr => ∃ kk : Nat, cntAt i kk ∧ Aside0 (kk ≤ 5) ∧ Aside0 (KeepBut W0 wr gn none) ∧ Aside0 (wr.heap[gn]? = some (.cells (cntCells ta tb tu tc tm kk) 3 (0, 0))) ∧ Aside0 (Below w.heap.size w wr))
    (fun i _ => 5 - (intOf i).toNat)
  case atStart => exact ⟨0, rfl, ⟨by omega⟩, ⟨KeepBut.refl _ _ _⟩, HN0, HBW⟩
  case round =>
    obtain ⟨kk, hi, HK, HKB, HN, HB⟩ := hrel
    have hcase : kk = 0 ∨ kk = 1 ∨ kk = 2 ∨ kk = 3 ∨ kk = 4 ∨ kk = 5 := by have := HK.out; omega
    have hll := HKB.out.blk HL0.out (by omega) (by simp)
    rcases hcase with rfl | rfl | rfl | rfl | rfl | rfl
    · obtain rfl : _ = Value.int .i64 0 := hi
      have hlc := blk_cell hll 0
      simp only [List.getElem?_toArray, List.getElem?_cons_zero, List.getElem?_cons_succ] at hlc
      clear hll
      go_wp2_with (go_at_call 16; (with_reducible refine (span_Total.calls kt0 _ _ a ta 0 _ (F0.out _ HKB.out) HC0.out HT0.out).mono ?_); rintro e w1 ⟨rfl, hb⟩; have HKB1 := Aside0.mk (HKB.out.trans (KeepBut.of_below hb gn none) (.inl rfl)); have hn1 := (hb.block _ (blk_lt HN.out)).trans HN.out; have HB1 := Aside0.mk (below_then HB.out HB.out.size hb); have hcz := blk_cell hn1 0; have hfz := blk_frozen hn1 0; have HN1 := Aside0.mk hn1; simp only [cntCells, List.getElem?_toArray, List.getElem?_cons_zero, List.getElem?_cons_succ] at hcz; clear hb hn1 hlc)
      go_roundw
      case rel => exact ⟨1, rfl, ⟨by omega⟩, ⟨cnt_set HKB1.out 0 _⟩, ⟨blk_set HN1.out 0 _⟩, ⟨HB1.out.setCell (p := ⟨gn, 0, none⟩) HWn.out _⟩⟩
      case measure => simp [intOf]
    · obtain rfl : _ = Value.int .i64 1 := hi
      have hlc := blk_cell hll 1
      simp only [List.getElem?_toArray, List.getElem?_cons_zero, List.getElem?_cons_succ] at hlc
      clear hll
      go_wp2_with (go_at_call 16; (with_reducible refine (span_Total.calls kt1 _ _ b tb 0 _ (F1.out _ HKB.out) HC1.out HT1.out).mono ?_); rintro e w1 ⟨rfl, hb⟩; have HKB1 := Aside0.mk (HKB.out.trans (KeepBut.of_below hb gn none) (.inl rfl)); have hn1 := (hb.block _ (blk_lt HN.out)).trans HN.out; have HB1 := Aside0.mk (below_then HB.out HB.out.size hb); have hcz := blk_cell hn1 1; have hfz := blk_frozen hn1 1; have HN1 := Aside0.mk hn1; simp only [cntCells, List.getElem?_toArray, List.getElem?_cons_zero, List.getElem?_cons_succ] at hcz; clear hb hn1 hlc)
      go_roundw
      case rel => exact ⟨2, rfl, ⟨by omega⟩, ⟨cnt_set HKB1.out 1 _⟩, ⟨blk_set HN1.out 1 _⟩, ⟨HB1.out.setCell (p := ⟨gn, 1, none⟩) HWn.out _⟩⟩
      case measure => simp [intOf]
    · obtain rfl : _ = Value.int .i64 2 := hi
      have hlc := blk_cell hll 2
      simp only [List.getElem?_toArray, List.getElem?_cons_zero, List.getElem?_cons_succ] at hlc
      clear hll
      go_wp2_with (go_at_call 16; (with_reducible refine (span_Total.calls kt2 _ _ u tu 0 _ (F2.out _ HKB.out) HCu.out HT2.out).mono ?_); rintro e w1 ⟨rfl, hb⟩; have HKB1 := Aside0.mk (HKB.out.trans (KeepBut.of_below hb gn none) (.inl rfl)); have hn1 := (hb.block _ (blk_lt HN.out)).trans HN.out; have HB1 := Aside0.mk (below_then HB.out HB.out.size hb); have hcz := blk_cell hn1 2; have hfz := blk_frozen hn1 2; have HN1 := Aside0.mk hn1; simp only [cntCells, List.getElem?_toArray, List.getElem?_cons_zero, List.getElem?_cons_succ] at hcz; clear hb hn1 hlc)
      go_roundw
      case rel => exact ⟨3, rfl, ⟨by omega⟩, ⟨cnt_set HKB1.out 2 _⟩, ⟨blk_set HN1.out 2 _⟩, ⟨HB1.out.setCell (p := ⟨gn, 2, none⟩) HWn.out _⟩⟩
      case measure => simp [intOf]
    · obtain rfl : _ = Value.int .i64 3 := hi
      have hlc := blk_cell hll 3
      simp only [List.getElem?_toArray, List.getElem?_cons_zero, List.getElem?_cons_succ] at hlc
      clear hll
      go_wp2_with (go_at_call 16; (with_reducible refine (span_Total.calls kt3 _ _ c tc 0 _ (F3.out _ HKB.out) HCc.out HT3.out).mono ?_); rintro e w1 ⟨rfl, hb⟩; have HKB1 := Aside0.mk (HKB.out.trans (KeepBut.of_below hb gn none) (.inl rfl)); have hn1 := (hb.block _ (blk_lt HN.out)).trans HN.out; have HB1 := Aside0.mk (below_then HB.out HB.out.size hb); have hcz := blk_cell hn1 3; have hfz := blk_frozen hn1 3; have HN1 := Aside0.mk hn1; simp only [cntCells, List.getElem?_toArray, List.getElem?_cons_zero, List.getElem?_cons_succ] at hcz; clear hb hn1 hlc)
      go_roundw
      case rel => exact ⟨4, rfl, ⟨by omega⟩, ⟨cnt_set HKB1.out 3 _⟩, ⟨blk_set HN1.out 3 _⟩, ⟨HB1.out.setCell (p := ⟨gn, 3, none⟩) HWn.out _⟩⟩
      case measure => simp [intOf]
    · obtain rfl : _ = Value.int .i64 4 := hi
      have hlc := blk_cell hll 4
      simp only [List.getElem?_toArray, List.getElem?_cons_zero, List.getElem?_cons_succ] at hlc
      clear hll
      go_wp2_with (go_at_call 16; (with_reducible refine (span_Total.calls kt4 _ _ m tm 0 _ (F4.out _ HKB.out) HCm.out HT4.out).mono ?_); rintro e w1 ⟨rfl, hb⟩; have HKB1 := Aside0.mk (HKB.out.trans (KeepBut.of_below hb gn none) (.inl rfl)); have hn1 := (hb.block _ (blk_lt HN.out)).trans HN.out; have HB1 := Aside0.mk (below_then HB.out HB.out.size hb); have hcz := blk_cell hn1 4; have hfz := blk_frozen hn1 4; have HN1 := Aside0.mk hn1; simp only [cntCells, List.getElem?_toArray, List.getElem?_cons_zero, List.getElem?_cons_succ] at hcz; clear hb hn1 hlc)
      go_roundw
      case rel => exact ⟨5, rfl, ⟨by omega⟩, ⟨cnt_set HKB1.out 4 _⟩, ⟨blk_set HN1.out 4 _⟩, ⟨HB1.out.setCell (p := ⟨gn, 4, none⟩) HWn.out _⟩⟩
      case measure => simp [intOf]
    · obtain rfl : _ = Value.int .i64 5 := hi
      clear hll
      have hN5 : wr.heap[gn]? = some (.cells #[.int .i64 ta, .int .i64 tb, .int .i64 tu, .int .i64 tc, .int .i64 tm] 3 (0, 0)) := HN.out
      have hc0' := blk_cell hN5 0
      have hc1' := blk_cell hN5 1
      have hc2' := blk_cell hN5 2
      have hc3' := blk_cell hN5 3
      have hc4' := blk_cell hN5 4
      simp only [List.getElem?_toArray, List.getElem?_cons_zero, List.getElem?_cons_succ] at hc0' hc1' hc2' hc3' hc4'
      clear hN5
      have s1 : IntKind.i64.wrap (ta + tb) = ta + tb := by rw [i64_w]; unfold wrap64; have := BA.out; have := BB.out; omega
      have s2 : IntKind.i64.wrap (tu + tc) = tu + tc := by rw [i64_w]; unfold wrap64; have := BU.out; have := BC.out; omega
      have s3 : IntKind.i64.wrap (tc + tm) = tc + tm := by rw [i64_w]; unfold wrap64; have := BC.out; have := BM.out; omega
      have q1 : (ta + tb == tu + tc) = true := beq_iff_eq.mpr E1.out
      have q2 : (ta == tc + tm) = true := beq_iff_eq.mpr E2.out
      go_wp2
      go_still_tail 29, (by kernel_rfl)
      change wpList _ _ _ _ _ wr.drew
      replace HB := Aside0.mk (below_drew HB.out)
      generalize wr.drew = wr2 at *
      go_wp2_with (go_at_call 13; (with_reducible refine (papermilllaw04_awake.calls true _ rfl).mono ?_); rintro e w_ ⟨rfl, hb⟩; replace HB := Aside0.mk (below_then HB.out HB.out.size hb); clear hb)
      go_ret
      exact ⟨rfl, HB.out⟩
/-! ### the totals -/
def cnt (f : Int → Bool) : Nat → Int
  | 0 => 0
  | n + 1 => cnt f n + if f n = true then 1 else 0
theorem cnt_add (f g h k : Int → Bool) (hp : ∀ x, (if f x = true then (1 : Int) else 0) + (if g x = true then 1 else 0) = (if h x = true then 1 else 0) + (if k x = true then 1 else 0)) : ∀ n, cnt f n + cnt g n = cnt h n + cnt k n
  | 0 => rfl
  | n + 1 => by
    have h1 := cnt_add f g h k hp n
    have h2 := hp n
    simp only [cnt]
    omega
theorem cnt_none : ∀ n, cnt (fun _ => false) n = 0
  | 0 => rfl
  | n + 1 => by simp [cnt, cnt_none n]
theorem cnt_span (s : S35) (h0 : 0 ≤ s.f0) (h1 : s.f0 ≤ s.f1) : ∀ n : Nat, cnt (fun x => decide (s.f0 ≤ x ∧ x < s.f1)) n = (if (n : Int) ≤ s.f0 then 0 else if (n : Int) ≤ s.f1 then n - s.f0 else s.f1 - s.f0)
  | 0 => by simp [cnt]; omega
  | n + 1 => by
    simp only [cnt, decide_eq_true_eq]
    rw [cnt_span s h0 h1 n]
    split <;> split <;> (try split) <;> (try split) <;> (try split) <;> omega
theorem tot_cnt (M : Nat) : ∀ (l : List S35) (e : Int), -1 ≤ e → sep e l → (∀ s ∈ l, s.f1 ≤ M) → tot l = cnt (hasOf l) M
  | [], e, _, _, _ => by
    have : hasOf [] = fun _ => false := rfl
    rw [this, cnt_none]
    rfl
  | s :: l, e, he, h, hb => by
    rw [tot_cons, tot_cnt M l s.f1 (by have := h.1; have := h.2.1; omega) h.2.2 (fun t ht => hb t (by simp [ht]))]
    have h1 := cnt_span s (by have := h.1; omega) (by have := h.2.1; omega) M
    have h2 := hb s (by simp)
    have h3 := h.2.1
    have h4 := h.1
    have e1 : cnt (fun x => decide (s.f0 ≤ x ∧ x < s.f1)) M = s.f1 - s.f0 := by rw [h1]; split <;> (try split) <;> omega
    have h5 := cnt_add (hasOf (s :: l)) (fun _ => false) (fun x => decide (s.f0 ≤ x ∧ x < s.f1)) (hasOf l) (fun x => by
      rw [hasOf_cons]
      by_cases q : s.f0 ≤ x ∧ x < s.f1
      · rw [sep_has h.2.2 (by omega)]; simp [q]
      · have : decide (s.f0 ≤ x ∧ x < s.f1) = false := by simpa using q
        rw [this]; simp) M
    rw [cnt_none] at h5
    omega
theorem comb_bounds (a b : List S35) (w : Int) (hw : w = 0 ∨ w = 1 ∨ w = 2) (ha : check04 a = 0) (hb : check04 b = 0) : sep (-1) (combOf a b w) ∧ (∀ s ∈ combOf a b w, 0 ≤ s.f0 ∧ s.f0 < s.f1 ∧ s.f1 ≤ 17179869184) ∧ ∀ x, hasOf (combOf a b w) x = wayOf w (hasOf a x) (hasOf b x) := by
  obtain ⟨g0, v0⟩ := good04 ha
  obtain ⟨g1, v1⟩ := good04 hb
  obtain ⟨k1, k2⟩ := comb_ok a b w hw (-1) (fun s h => by
    rcases h with h | h
    · have := v0 s h; omega
    · have := v1 s h; omega)
  have hh : ∀ x, hasOf (combOf a b w) x = wayOf w (hasOf a x) (hasOf b x) := fun x => by
    rw [Bool.eq_iff_iff, hasOf_iff, k2]
    unfold keeps wayOf
    simp
  refine ⟨k1, fun s hs => ?_, hh⟩
  have hin := sep_in k1 s hs
  refine ⟨by omega, hin.2, ?_⟩
  have hm : hasOf (combOf a b w) (s.f1 - 1) = true := (hasOf_iff _ _).2 ⟨s, hs, by omega, by omega⟩
  rw [hh] at hm
  have ho : hasOf a (s.f1 - 1) = true ∨ hasOf b (s.f1 - 1) = true := by
    rcases hw with rfl | rfl | rfl
    · rw [wayOf_0] at hm; simpa using hm
    · rw [wayOf_1] at hm; simp at hm; exact .inl hm.1
    · rw [wayOf_2] at hm; simp at hm; exact .inl hm.1
  rcases ho with h | h
  · obtain ⟨t, ht, h1, h2⟩ := (hasOf_iff _ _).1 h
    have := v0 t ht; omega
  · obtain ⟨t, ht, h1, h2⟩ := (hasOf_iff _ _).1 h
    have := v1 t ht; omega
theorem join_self {l : List S35} (h1 : sep (-1) l) (h2 : ∀ s ∈ l, 0 ≤ s.f0 ∧ s.f0 < s.f1 ∧ s.f1 ≤ 17179869184) : joinOf l = l := by
  obtain ⟨k1, k2⟩ := joinOf_ok l (-1) (fun s hs => by have := h2 s hs; omega)
  exact sep_unique k1 h1 k2
theorem total_normal {l : List S35} (hl : l.length ≤ 256) (h1 : sep (-1) l) (h2 : ∀ s ∈ l, 0 ≤ s.f0 ∧ s.f0 < s.f1 ∧ s.f1 ≤ 17179869184) : totalOf l = (tot l, 0) := by
  have hc : check04 l = 0 := by
    unfold check04
    rw [if_neg (by omega), if_neg]
    rintro ⟨s, hs, hb⟩
    have := h2 s hs
    unfold badS at hb
    omega
  unfold totalOf
  rw [if_pos hc, join_self h1 h2]
theorem cnt_bound (f : Int → Bool) : ∀ n : Nat, 0 ≤ cnt f n ∧ cnt f n ≤ n
  | 0 => by simp [cnt]
  | n + 1 => by
    have := cnt_bound f n
    simp only [cnt]
    split <;> omega
def papermilllaw04_SpanCounts.f (l0 l1 : List S35) : Option Bool := some true
theorem papermilllaw04_SpanCounts.calls (A0 : Option Addr) (c0 : Nat) (l0 : List (S35)) (A1 : Option Addr) (c1 : Nat) (l1 : List (S35)) (r : Bool) (w : World) (hr0 : Kd.C k35 w A0 l0.length l0) (hc0 : l0.length ≤ c0) (hr1 : Kd.C k35 w A1 l1.length l1) (hc1 : l1.length ≤ c1) (h : papermilllaw04_SpanCounts.f l0 l1 = some r) :
    Calls Try.prog 7 #[.slice A0 l0.length c0, .slice A1 l1.length c1] w fun e w' => e = .returned (.bool r) ∧ Below w.heap.size w w' := by
  obtain rfl := Option.some.inj h
  by_cases ga : (l0.length : Int) > 300
  · exact counts_great0 l0 l1 A0 c0 A1 c1 w hr0 hc0 hr1 hc1 (by unfold papermilllaw04_great.f; rw [decide_eq_true ga])
  have fa : papermilllaw04_great.f l0 = some false := by unfold papermilllaw04_great.f; rw [decide_eq_false ga]
  by_cases gb : (l1.length : Int) > 300
  · exact counts_great1 l0 l1 A0 c0 A1 c1 w hr0 hc0 hr1 hc1 fa (by unfold papermilllaw04_great.f; rw [decide_eq_true gb])
  have fb : papermilllaw04_great.f l1 = some false := by unfold papermilllaw04_great.f; rw [decide_eq_false gb]
  obtain ⟨k3, h3⟩ := (union_ends l0 l1).get
  obtain ⟨k4, h4⟩ := (common_ends l0 l1).get
  obtain ⟨k5, h5⟩ := (minus_ends l0 l1).get
  by_cases eu : (bothOf l0 l1 0).2 = 0
  case neg => exact counts_err l0 l1 A0 c0 A1 c1 w hr0 hc0 hr1 hc1 _ _ _ _ _ _ k3 k4 k5 fa fb h3 h4 h5 (.inl eu)
  by_cases ec : (bothOf l0 l1 1).2 = 0
  case neg => exact counts_err l0 l1 A0 c0 A1 c1 w hr0 hc0 hr1 hc1 _ _ _ _ _ _ k3 k4 k5 fa fb h3 h4 h5 (.inr (.inl ⟨eu, ec⟩))
  by_cases em : (bothOf l0 l1 2).2 = 0
  case neg => exact counts_err l0 l1 A0 c0 A1 c1 w hr0 hc0 hr1 hc1 _ _ _ _ _ _ k3 k4 k5 fa fb h3 h4 h5 (.inr (.inr ⟨eu, ec, em⟩))
  have ca : check04 l0 = 0 := by
    apply Classical.byContradiction
    intro hn
    unfold bothOf at eu
    rw [if_neg hn] at eu
    exact hn eu
  have cb : check04 l1 = 0 := by
    apply Classical.byContradiction
    intro hn
    unfold bothOf at eu
    rw [if_pos ca, if_neg hn] at eu
    exact hn eu
  have val : ∀ w, (bothOf l0 l1 w).2 = 0 → bothOf l0 l1 w = (combOf l0 l1 w, 0) ∧ (combOf l0 l1 w).length ≤ 256 := by
    intro w hw
    unfold bothOf at hw ⊢
    rw [if_pos ca, if_pos cb] at hw ⊢
    split at hw
    · simp at hw
    · rename_i hl
      rw [if_neg hl]
      exact ⟨rfl, by omega⟩
  obtain ⟨vu, nu⟩ := val 0 eu
  obtain ⟨vc, nc⟩ := val 1 ec
  obtain ⟨vm, nm⟩ := val 2 em
  rw [vu] at h3
  rw [vc] at h4
  rw [vm] at h5
  obtain ⟨su, bu, hu⟩ := comb_bounds l0 l1 0 (.inl rfl) ca cb
  obtain ⟨sc, bc, hc⟩ := comb_bounds l0 l1 1 (.inr (.inl rfl)) ca cb
  obtain ⟨sm, bm, hm⟩ := comb_bounds l0 l1 2 (.inr (.inr rfl)) ca cb
  obtain ⟨g0, v0⟩ := good04 ca
  obtain ⟨g1, v1⟩ := good04 cb
  have u0 : ∀ s ∈ l0, -1 < s.f0 ∧ s.f0 ≤ s.f1 := fun s hs => by have := v0 s hs; omega
  have u1 : ∀ s ∈ l1, -1 < s.f0 ∧ s.f0 ≤ s.f1 := fun s hs => by have := v1 s hs; omega
  obtain ⟨ja, ma⟩ := joinOf_ok l0 (-1) u0
  obtain ⟨jb, mb⟩ := joinOf_ok l1 (-1) u1
  have ba := joinOf_bound l0 (-1) 17179869184 (fun s hs => by have := v0 s hs; omega)
  have bb := joinOf_bound l1 (-1) 17179869184 (fun s hs => by have := v1 s hs; omega)
  have hja : ∀ x, hasOf (joinOf l0) x = hasOf l0 x := fun x => by rw [Bool.eq_iff_iff, hasOf_iff, hasOf_iff]; exact ma x
  have hjb : ∀ x, hasOf (joinOf l1) x = hasOf l1 x := fun x => by rw [Bool.eq_iff_iff, hasOf_iff, hasOf_iff]; exact mb x
  obtain ⟨M, hM⟩ : ∃ M : Nat, (M : Int) = 17179869184 := ⟨17179869184, rfl⟩
  have ta := tot_cnt M (joinOf l0) (-1) (by omega) ja (fun s hs => by have := ba s hs; omega)
  have tb := tot_cnt M (joinOf l1) (-1) (by omega) jb (fun s hs => by have := bb s hs; omega)
  have tu := tot_cnt M (combOf l0 l1 0) (-1) (by omega) su (fun s hs => by have := bu s hs; omega)
  have tc := tot_cnt M (combOf l0 l1 1) (-1) (by omega) sc (fun s hs => by have := bc s hs; omega)
  have tm := tot_cnt M (combOf l0 l1 2) (-1) (by omega) sm (fun s hs => by have := bm s hs; omega)
  have c1' := cnt_add (hasOf (joinOf l0)) (hasOf (joinOf l1)) (hasOf (combOf l0 l1 0)) (hasOf (combOf l0 l1 1)) (fun x => by
    rw [hja, hjb, hu, hc, wayOf_0, wayOf_1]
    cases hasOf l0 x <;> cases hasOf l1 x <;> simp) M
  have c2' := cnt_add (hasOf (joinOf l0)) (fun _ => false) (hasOf (combOf l0 l1 1)) (hasOf (combOf l0 l1 2)) (fun x => by
    rw [hja, hc, hm, wayOf_1, wayOf_2]
    cases hasOf l0 x <;> cases hasOf l1 x <;> simp) M
  rw [cnt_none] at c2'
  have r0 : totalOf l0 = (tot (joinOf l0), 0) := by unfold totalOf; rw [if_pos ca]
  have r1 : totalOf l1 = (tot (joinOf l1), 0) := by unfold totalOf; rw [if_pos cb]
  obtain ⟨t0, p0⟩ := (total_ends l0).get
  obtain ⟨t1, p1⟩ := (total_ends l1).get
  obtain ⟨t2, p2⟩ := (total_ends (combOf l0 l1 0)).get
  obtain ⟨t3, p3⟩ := (total_ends (combOf l0 l1 1)).get
  obtain ⟨t4, p4⟩ := (total_ends (combOf l0 l1 2)).get
  rw [r0] at p0
  rw [r1] at p1
  rw [total_normal nu su bu] at p2
  rw [total_normal nc sc bc] at p3
  rw [total_normal nm sm bm] at p4
  have d0 := cnt_bound (hasOf (joinOf l0)) M
  have d1 := cnt_bound (hasOf (joinOf l1)) M
  have d2 := cnt_bound (hasOf (combOf l0 l1 0)) M
  have d3 := cnt_bound (hasOf (combOf l0 l1 1)) M
  have d4 := cnt_bound (hasOf (combOf l0 l1 2)) M
  rw [← ta] at d0 c1' c2'
  rw [← tb] at d1 c1'
  rw [← tu] at d2 c1'
  rw [← tc] at d3 c1' c2'
  rw [← tm] at d4 c2'
  exact counts_walk l0 l1 A0 c0 A1 c1 w hr0 hc0 hr1 hc1 _ _ _ k3 k4 k5 fa fb h3 h4 h5 _ _ _ _ _ t0 t1 t2 t3 t4 p0 p1 p2 p3 p4 (by omega) (by omega) (by omega) (by omega) (by omega) c1' (by omega)

end Go.Proofs.Ytlfcaoniclnimaa.G

namespace Go.Proofs.Ytlfcaoniclnimaa.G
open Go.RowKit Go.Proofs.YtlfcaoniclnimaaW.PrintWords Go.Proofs.YtlfcaoniclnimaaW.PrintLast Go.Proofs.YtlfcaoniclnimaaW.PrintMore
/-- the law, over lists and numbers -/
theorem SpanCounts : ∀ (l0 : List (S35)) (l1 : List (S35)), (l0.length ≤ maxLen ∧ ∀ x ∈ l0, wf_35 x) → (l1.length ≤ maxLen ∧ ∀ x ∈ l1, wf_35 x) → papermilllaw04_SpanCounts.f l0 l1 = some true := fun _ _ _ _ => rfl
end Go.Proofs.Ytlfcaoniclnimaa.G

namespace Go.Proofs.Ytlfcaoniclnimaa.spanCounts
open Go.ChangeShapes Go.WideShapes Go.ChangeAt Go.RowKit Go.Proofs.YtlfcaoniclnimaaW.PrintWords Go.Proofs.YtlfcaoniclnimaaW.PrintLast Go.Proofs.Ytlfcaoniclnimaa.G
open Go.ChangeMaps (open_string shut_string)
set_option linter.unusedVariables false
set_option linter.unusedSimpArgs false
theorem own : ownKnob Try.prog.godebug = none := by kernel_rfl
theorem laidOut : laidOutB Try.prog = true := by kernel_rfl
set_option maxRecDepth 100000 in
theorem lifted (os : Os) (started : os.Started) (H : Type) (enc : TypeId × Value → H) :
    ReturnsInHanded {} Try.checked os 7 .any (Rows.spanCountsSpec.pre6 enc Try.prog Try.f7 Rows.spanCountsRow.domain false) (Rows.spanCountsSpec.post enc Try.prog Try.f7 false true false false) := by
  refine returnsInHanded_of_change_sized (C := Try.checked) own started (by kernel_rfl) Try.func7
    (ChangeSpec.witness6 (enc := enc) (C := Try.checked) false ⟨#[], #[.slice none 0 0, .slice none 0 0], []⟩ 8 (by kernel_rfl) (by kernel_rfl) (by kernel_rfl) (by kernel_rfl)) ?_
  intro W base args ds gs before hval0 hW hcnd hsz0 _
  have hval : ∀ (j : Nat) t v, Try.f7.params[j]? = some t → args[j]? = some v → Value.okWide Try.prog W .any base t v := hval0
  have hW' := hW
  obtain ⟨p, q, hA0, hV, rfl, hfz, hnd⟩ := hW
  have hA : DataW.TrodAll enc Try.prog W 0 (fun _ => true) true Try.f7.params.toList args.toList ds p := hA0
  rw [Try.params7] at hA hval
  obtain ⟨v0, vs0, d0, ds0, p0, q0, hargs, rfl, rfl, h0, r0⟩ := trodAll_cons hA
  obtain ⟨v1, vs1, d1, ds1, p1, q1, rfl, rfl, rfl, h1, r1⟩ := trodAll_cons r0
  obtain ⟨rfl, rfl, rfl⟩ := trodAll_nil r1
  obtain rfl : args = #[v0, v1] := by cases args; simp_all
  obtain ⟨rfl, rfl⟩ := trodVars_none hV
  have k0 := h0
  have lt0 : ∀ x ∈ p0, x.block < W.heap.size := by obtain ⟨m, hm⟩ := k0; exact DataW.trod_lt m _ _ _ hm
  obtain ⟨a0, len0, cap0, rfl⟩ := okWide_slice Try.underlying22 (hval 0 22 v0 rfl rfl)
  obtain ⟨l0, ⟨A0, c0, hcs0, hlc0, hC0⟩, hw0⟩ : ∃ l, ((Kd.slice 35 k35)).K W l [.slice a0 len0 cap0] ∧ (l.length ≤ maxLen ∧ ∀ x ∈ l, wf_35 x) := by
    obtain ⟨fuel, hf⟩ := k0
    exact (Opens.slice Try.underlying22 (by kernel_rfl) opens_35) enc W fuel _ _ hf
  simp only [List.cons.injEq, and_true, Value.slice.injEq] at hcs0
  obtain ⟨rfl, rfl, rfl⟩ := hcs0
  have k1 := h1
  have lt1 : ∀ x ∈ p1, x.block < W.heap.size := by obtain ⟨m, hm⟩ := k1; exact DataW.trod_lt m _ _ _ hm
  obtain ⟨a1, len1, cap1, rfl⟩ := okWide_slice Try.underlying22 (hval 1 22 v1 rfl rfl)
  obtain ⟨l1, ⟨A1, c1, hcs1, hlc1, hC1⟩, hw1⟩ : ∃ l, ((Kd.slice 35 k35)).K W l [.slice a1 len1 cap1] ∧ (l.length ≤ maxLen ∧ ∀ x ∈ l, wf_35 x) := by
    obtain ⟨fuel, hf⟩ := k1
    exact (Opens.slice Try.underlying22 (by kernel_rfl) opens_35) enc W fuel _ _ hf
  simp only [List.cons.injEq, and_true, Value.slice.injEq] at hcs1
  obtain ⟨rfl, rfl, rfl⟩ := hcs1
  clear hA0 hval0 hsz0
  have hk := SpanCounts l0 l1 hw0 hw1
  refine (papermilllaw04_SpanCounts.calls _ _ l0 _ _ l1 true W hC0 hlc0 hC1 hlc1 hk).mono fun e W' he => ?_
  obtain ⟨he, bel⟩ := he
  subst he
  exact ⟨_, rfl, _, _, _, [], _, [], hW', trodAll_mk1 (shut_bool Try.underlying4 _), (trodAll_cons_mk (Below.trod laidOut (by kernel_rfl) (of_decide_eq_true (by kernel_rfl)) k0 bel lt0) (trodAll_cons_mk (Below.trod laidOut (by kernel_rfl) (of_decide_eq_true (by kernel_rfl)) k1 bel lt1) trodAll_mk0)), rfl, bel.frame _, fun h => by cases h⟩
theorem over : Rows.spanCountsRow.holds Try.pinned (OpenSpec.ofChange Rows.spanCountsSpec) :=
  OpenClaim.holds_of_wide 7 Try.f7 rfl rfl rfl rfl rfl rfl rfl ⟨rfl, rfl, rfl, rfl, rfl⟩ rfl rfl rfl rfl rfl (by kernel_rfl) Try.func7 (by kernel_rfl)
    (of_decide_eq_true (by kernel_rfl)) (by unfold Func.isWrapper; first | (rw [if_pos (by decide +kernel)]; kernel_rfl) | (rw [if_neg (by decide +kernel)]; exact ⟨rfl, rfl⟩))
    (fun os started H enc _ => lifted os started H enc)
theorem proved : Rows.SpanCountsSaid := over
#print axioms proved
end Go.Proofs.Ytlfcaoniclnimaa.spanCounts
namespace Go.Proofs.Ytlfcaoniclnimaa
/-- The row, under a short name, for the claim. -/
theorem spanCounts_holds : Rows.SpanCountsSaid := spanCounts.proved
end Go.Proofs.Ytlfcaoniclnimaa
