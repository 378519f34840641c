import Derived.Test.YtcnkmdonbpgjiaaQ3
import Derived.Deep.LoopGhost
import Derived.Sort.QuietIn
import Derived.Deep.Fields
import Derived.RangeFuncRecord
import Derived.StillTailTactics
import Derived.Test.YtcnkmdonbpgjiaaQ1
import Derived.Test.YtcnkmdonbpgjiaaQ2
namespace Go.Proofs.Ytcnkmdonbpgjiaa.G
open Go.RowKit Go.Proofs.YtcnkmdonbpgjiaaW.PrintWords Go.Proofs.YtcnkmdonbpgjiaaW.PrintLast Go.Proofs.YtcnkmdonbpgjiaaW.PrintMore
attribute [local go_sem] max2_int min2_int max_two min_two max_three min_three max_four min_four   -- for this text's walks alone
set_option linter.unusedVariables false
set_option linter.unusedSimpArgs false
theorem part_fold (l : List S32) (h : check13 l = 0) (f t : Int) : ([] ++ pieces l 0 f t).foldl addOf [] = nrm (((sem l).take t.toNat).drop f.toNat) := by
  have hg := (check13_zero h).2.1
  rw [List.nil_append, addAll _ (pieces_pos l 0 f t), sem_pieces l 0 f t (fun r hr => (fit_of (hg r hr)).2.2.1), Int.sub_zero, Int.sub_zero]
theorem part_len (l : List S32) (f t : Int) : (([] ++ pieces l 0 f t).foldl addOf []).length ≤ l.length := by
  have := addAll_len ([] ++ pieces l 0 f t) []
  have := pieces_len l 0 f t
  simp only [List.nil_append, List.length_nil] at *
  omega
theorem rev_fold (l : List S32) (h : check13 l = 0) : ([] ++ revL l).foldl addOf [] = nrm (sem l).reverse := by
  have hg := (check13_zero h).2.1
  rw [List.nil_append, addAll _ (revL_pos l (fun r hr => (fit_of (hg r hr)).2.2.1)), sem_rev l (fun r hr => (fit_of (hg r hr)).2.2.1)]
theorem sem_tot {l : List S32} (h : check13 l = 0) : ((sem l).length : Int) = tot13 l := sem_len l (fun r hr => by have := (fit_of ((check13_zero h).2.1 r hr)).2.2.1; omega)
theorem tot_nonneg {l : List S32} (h : check13 l = 0) : 0 ≤ tot13 l := by rw [← sem_tot h]; omega
theorem done_few (g : Nat) (ps : List S32) (w : World) (hI : BInv g ps w) (hl : (ps.foldl addOf []).length ≤ 256) :
    Calls Try.prog 50 #[.pointer (some ⟨g, 0, none⟩)] w fun e w' => ∃ v, e = .returned (.tuple #[v, .int .i64 0]) ∧ Kd.R k32 32 w' g (fun _ => True) v (ps.foldl addOf []) ∧ w' = w := by
  obtain ⟨_, v, hB⟩ := hI
  refine (done_calls g v _ w hB (by omega)).mono ?_
  rintro e w' ⟨rfl, rfl⟩
  rw [if_neg (by omega)]
  exact ⟨v, rfl, Kd.R_mono hB.o (fun _ _ => trivial), rfl⟩
def normOf (l : List S32) : List S32 × Int := if check13 l = 0 then (nrm (sem l), 0) else ([], check13 l)
def iso_Norm.f (l0 : List S32) : Option (List S32 × Int) := some (normOf l0)
set_option maxRecDepth 100000 in
set_option maxHeartbeats 8000000 in
theorem norm_main (A0 : Option Addr) (c0 : Nat) (l : List S32) (w : World) (hr : Kd.C k32 w A0 l.length l) (hc : l.length ≤ c0) :
    Calls Try.prog 21 #[.slice A0 l.length c0] w fun e w' => ∃ v, e = .returned (.tuple #[v, .int .i64 (normOf l).2]) ∧ Kd.R k32 32 w' w.heap.size (fun _ => True) v (normOf l).1 ∧ Below w.heap.size w w' := by
  have HR := Aside0.mk hr
  have HC := Aside0.mk hc
  clear hr hc
  obtain ⟨k1, hk1⟩ := (icheck_ends l).get
  unfold normOf
  by_cases h0 : check13 l = 0
  · obtain ⟨hl, hg, ht⟩ := check13_zero h0
    have hfit : ∀ r ∈ l, fitR r := fun r hr => fit_of (hg r hr)
    obtain ⟨k2, hk2⟩ := (ilength_ends l (by omega) (fun r hr => by have := hfit r hr; unfold fitR at this; omega)).get
    have HK2 := Aside0.mk hk2
    rw [h0] at hk1
    have HK1 := Aside0.mk hk1
    have HLL := Aside0.mk hl
    have HFI := Aside0.mk (show ∀ r ∈ l, 0 ≤ r.f0 ∧ r.f0 ≤ 17179869184 ∧ 1 ≤ r.f1 ∧ r.f1 ≤ 17179869184 from hfit)
    have HG := Aside0.mk hg
    have hT := Aside0.mk (show 0 ≤ tot13 l ∧ tot13 l ≤ 1099511627776 by have := tot_nonneg h0; omega)
    have HE := Aside0.mk (show ([] ++ pieces l 0 0 (tot13 l)).foldl addOf [] = nrm (sem l) by rw [part_fold l h0, ← sem_tot h0]; simp)
    have HEL := Aside0.mk (show (([] ++ pieces l 0 0 (tot13 l)).foldl addOf []).length ≤ 256 by have := part_len l 0 (tot13 l); omega)
    rw [if_pos h0]
    clear hk1 hk2 h0 hl hg ht hfit
    generalize tot13 l = T at *
    go_enter Try.func21, Try.ntmps21
    go_wp2_with (first | (go_at_call 14; (with_reducible refine (iso_Check.calls k1 A0 c0 l 0 _ HR.out HC.out HK1.out).mono ?_); rintro e w1 ⟨rfl, hb⟩; have HB1 := Aside0.mk hb; have HR1 := Aside0.mk (Kd.C_below HR.out hb); clear hb) | (go_at_call 43; (with_reducible refine (iso_length.calls k2 A0 c0 l T _ (Kd.C_alloc HR1.out _) HC.out HK2.out).mono ?_); rintro e w3 ⟨rfl, hb⟩; have HB3 := Aside0.mk (((Below.refl w1.heap.size w1).alloc (Nat.le_refl _) (.cells #[.slice none 0 0] 57)).trans (hb.mono (by simp))); have HI3 := Aside0.mk (BInv.mono _ _ _ (BInv.new w1) hb).1; clear hb) | (go_at_call 46; (with_reducible refine (each_add w1.heap.size 65536 (BInv w1.heap.size) okPce (BDirty w1.heap.size) BInv.dirty BInv.mono BInv.step A0 c0 l 0 T [] w1 w3 HR1.out HC.out (Nat.le_refl _) HB3.out HI3.out (by have := HLL.out; simp; omega) (by have := HLL.out; omega) HFI.out (by omega) hT.out (fun r hr a n h1 h2 h3 => okPce_part (HG.out r hr) a n h1 h2 h3)).mono ?_); rintro e w4 ⟨rfl, hi, hb⟩; have HI4 := Aside0.mk hi; have HB4 := Aside0.mk hb; clear hi hb) | (go_at_call 50; (with_reducible refine (done_few w1.heap.size _ w4 HI4.out HEL.out).mono ?_); rintro e w5 ⟨v, rfl, ho, rfl⟩; have HO := Aside0.mk ho; clear ho))
    refine bodyPost_ret (results_tmp2 rfl _ _ _) rfl ?_
    exact ⟨v, rfl, by rw [← HE.out]; exact Kd.R_lower HO.out HB1.out.size, HB1.out.trans (HB4.out.mono HB1.out.size)⟩
  · have HK1 := Aside0.mk hk1
    have hne : (check13 l == 0) = false := by simpa using h0
    have hne1 : (check13 l != 0) = true := by simpa using h0
    rw [if_neg h0]
    clear hk1 h0
    generalize check13 l = q at *
    go_enter Try.func21, Try.ntmps21
    go_wp2_with (go_at_call 14; (with_reducible refine (iso_Check.calls k1 A0 c0 l q _ HR.out HC.out HK1.out).mono ?_); rintro e w1 ⟨rfl, hb⟩; have HB1 := Aside0.mk hb; clear hb)
    refine bodyPost_ret (results_tmp2 rfl _ _ _) rfl ?_
    exact ⟨_, rfl, Kd.R_nil _ _ _ _ _, HB1.out⟩
theorem iso_Norm.calls (A0 : Option Addr) (c0 : Nat) (l0 : List (S32)) (r1 : List (S32)) (r2 : Int) (w : World) (hr0 : Kd.C k32 w A0 l0.length l0) (hc0 : l0.length ≤ c0) (h : iso_Norm.f l0 = some (r1, r2)) :
    Calls Try.prog 21 #[.slice A0 l0.length c0] w fun e w' => ∃ v0_ : Value, e = .returned (.tuple #[v0_, .int .i64 r2]) ∧ Kd.R k32 32 w' w.heap.size (fun _ => True) v0_ r1 ∧ Below w.heap.size w w' := by
  have e : normOf l0 = (r1, r2) := Option.some.inj h
  have := norm_main A0 c0 l0 w hr0 hc0
  rw [e] at this
  exact this
end Go.Proofs.Ytcnkmdonbpgjiaa.G

namespace Go.Proofs.Ytcnkmdonbpgjiaa.G
open Go.RowKit Go.Proofs.YtcnkmdonbpgjiaaW.PrintWords Go.Proofs.YtcnkmdonbpgjiaaW.PrintLast Go.Proofs.YtcnkmdonbpgjiaaW.PrintMore
attribute [local go_sem] max2_int min2_int max_two min_two max_three min_three max_four min_four   -- for this text's walks alone
set_option linter.unusedVariables false
set_option linter.unusedSimpArgs false
def revOf (l : List S32) : List S32 × Int := if check13 l = 0 then (nrm (sem l).reverse, 0) else ([], check13 l)
def iso_Reverse.f (l0 : List S32) : Option (List S32 × Int) := some (revOf l0)
set_option maxRecDepth 100000 in
set_option maxHeartbeats 8000000 in
theorem rev_main (A0 : Option Addr) (c0 : Nat) (l : List S32) (w : World) (hr : Kd.C k32 w A0 l.length l) (hc : l.length ≤ c0) :
    Calls Try.prog 22 #[.slice A0 l.length c0] w fun e w' => ∃ v, e = .returned (.tuple #[v, .int .i64 (revOf l).2]) ∧ Kd.R k32 32 w' w.heap.size (fun _ => True) v (revOf l).1 ∧ Below w.heap.size w w' := by
  have HR := Aside0.mk hr
  have HC := Aside0.mk hc
  clear hr hc
  obtain ⟨k1, hk1⟩ := (icheck_ends l).get
  unfold revOf
  by_cases h0 : check13 l = 0
  · obtain ⟨hl, hg, ht⟩ := check13_zero h0
    have hfit : ∀ r ∈ l, fitR r := fun r hr => fit_of (hg r hr)
    rw [h0] at hk1
    have HK1 := Aside0.mk hk1
    have HLL := Aside0.mk hl
    have HFI := Aside0.mk (show ∀ r ∈ l, 0 ≤ r.f0 ∧ r.f0 ≤ 17179869184 ∧ 1 ≤ r.f1 ∧ r.f1 ≤ 17179869184 from hfit)
    have HG := Aside0.mk hg
    have HE := Aside0.mk (show ([] ++ revL l).foldl addOf [] = nrm (sem l).reverse from rev_fold l h0)
    have HEL := Aside0.mk (show (([] ++ revL l).foldl addOf []).length ≤ 256 by have := addAll_len ([] ++ revL l) []; have := revL_len l; simp only [List.nil_append, List.length_nil] at *; omega)
    rw [if_pos h0]
    clear hk1 h0 hl hg ht hfit
    go_enter Try.func22, Try.ntmps22
    go_wp2_with (first | (go_at_call 14; (with_reducible refine (iso_Check.calls k1 A0 c0 l 0 _ HR.out HC.out HK1.out).mono ?_); rintro e w1 ⟨rfl, hb⟩; have HB1 := Aside0.mk hb; have HR1 := Aside0.mk (Kd.C_below HR.out hb); clear hb) | (go_at_call 49; (refine (reversed_add w1.heap.size 65536 w1.heap.size (BRun w1.heap.size w1) okPce (BDirty w1.heap.size) BRun.dirty BRun.mono BRun.step A0 c0 l [] _ (fun ps W h => Kd.C_below HR1.out h.2) HC.out (by simp) ⟨BInv.new w1, (Below.refl _ _).alloc (Nat.le_refl _) _⟩ (by have := HLL.out; simp; omega) (by have := HLL.out; omega) HFI.out (fun r hr => okPce_rev (HG.out r hr))).mono ?_); rintro e w4 ⟨rfl, hi, _⟩; have HI4 := Aside0.mk hi.1; have HB4 := Aside0.mk hi.2; clear hi) | (go_at_call 50; (with_reducible refine (done_few w1.heap.size _ w4 HI4.out HEL.out).mono ?_); rintro e w5 ⟨v, rfl, ho, rfl⟩; have HO := Aside0.mk ho; clear ho))
    refine bodyPost_ret (results_tmp2 rfl _ _ _) rfl ?_
    exact ⟨v, rfl, by rw [← HE.out]; exact Kd.R_lower HO.out HB1.out.size, HB1.out.trans (HB4.out.mono HB1.out.size)⟩
  · have HK1 := Aside0.mk hk1
    have hne : (check13 l == 0) = false := by simpa using h0
    have hne1 : (check13 l != 0) = true := by simpa using h0
    rw [if_neg h0]
    clear hk1 h0
    generalize check13 l = q at *
    go_enter Try.func22, Try.ntmps22
    go_wp2_with (go_at_call 14; (with_reducible refine (iso_Check.calls k1 A0 c0 l q _ HR.out HC.out HK1.out).mono ?_); rintro e w1 ⟨rfl, hb⟩; have HB1 := Aside0.mk hb; clear hb)
    refine bodyPost_ret (results_tmp2 rfl _ _ _) rfl ?_
    exact ⟨_, rfl, Kd.R_nil _ _ _ _ _, HB1.out⟩
theorem iso_Reverse.calls (A0 : Option Addr) (c0 : Nat) (l0 : List (S32)) (r1 : List (S32)) (r2 : Int) (w : World) (hr0 : Kd.C k32 w A0 l0.length l0) (hc0 : l0.length ≤ c0) (h : iso_Reverse.f l0 = some (r1, r2)) :
    Calls Try.prog 22 #[.slice A0 l0.length c0] w fun e w' => ∃ v0_ : Value, e = .returned (.tuple #[v0_, .int .i64 r2]) ∧ Kd.R k32 32 w' w.heap.size (fun _ => True) v0_ r1 ∧ Below w.heap.size w w' := by
  have e : revOf l0 = (r1, r2) := Option.some.inj h
  have := rev_main A0 c0 l0 w hr0 hc0
  rw [e] at this
  exact this
def partOf13 (l : List S32) (a b : Int) : List S32 × Int := if check13 l = 0 then (if a < 0 ∨ a > b ∨ b > tot13 l then ([], 1) else (nrm (((sem l).take b.toNat).drop a.toNat), 0)) else ([], check13 l)
def iso_Part.f (l0 : List S32) (a1_0 a1_1 : Int) : Option (List S32 × Int) := some (partOf13 l0 a1_0 a1_1)
set_option maxRecDepth 100000 in
set_option maxHeartbeats 16553600 in
theorem part_main (A0 : Option Addr) (c0 : Nat) (l : List S32) (a b : Int) (w : World) (hr : Kd.C k32 w A0 l.length l) (hc : l.length ≤ c0) :
    Calls Try.prog 36 #[.slice A0 l.length c0, .agg #[.int .i64 a, .int .i64 b]] w fun e w' => ∃ v, e = .returned (.tuple #[v, .int .i64 (partOf13 l a b).2]) ∧ Kd.R k32 32 w' w.heap.size (fun _ => True) v (partOf13 l a b).1 ∧ Below w.heap.size w w' := by
  have HBX := Aside0.mk ((Below.refl w.heap.size w).alloc (Nat.le_refl _) (.cells #[.int .i64 a, .int .i64 b] 37))
  have HR := Aside0.mk (Kd.C_below hr HBX.out)
  have HX0 := Aside0.mk (World.alloc_heap_new w (.cells #[.int .i64 a, .int .i64 b] 37))
  have HC := Aside0.mk hc
  clear hr hc
  obtain ⟨k1, hk1⟩ := (icheck_ends l).get
  unfold partOf13
  by_cases h0 : check13 l = 0
  · obtain ⟨hl, hg, ht⟩ := check13_zero h0
    have hfit : ∀ r ∈ l, fitR r := fun r hr => fit_of (hg r hr)
    obtain ⟨k2, hk2⟩ := (ilength_ends l (by omega) (fun r hr => by have := hfit r hr; unfold fitR at this; omega)).get
    have HK2 := Aside0.mk hk2
    rw [h0] at hk1
    have HK1 := Aside0.mk hk1
    have HLL := Aside0.mk hl
    have HFI := Aside0.mk (show ∀ r ∈ l, 0 ≤ r.f0 ∧ r.f0 ≤ 17179869184 ∧ 1 ≤ r.f1 ∧ r.f1 ≤ 17179869184 from hfit)
    have HG := Aside0.mk hg
    have hT := Aside0.mk (show 0 ≤ tot13 l ∧ tot13 l ≤ 17179869184 by have := tot_nonneg h0; omega)
    have HE := Aside0.mk (part_fold l h0 a b)
    have HEL := Aside0.mk (show (([] ++ pieces l 0 a b).foldl addOf []).length ≤ 256 by have := part_len l a b; omega)
    rw [if_pos h0]
    clear hk1 hk2 h0 hl hg ht hfit
    generalize tot13 l = T at *
    obtain ⟨P, hP⟩ : ∃ P, (if a < 0 ∨ a > b ∨ b > T then (([], 1) : List S32 × Int) else (nrm (((sem l).take b.toNat).drop a.toNat), 0)) = P := ⟨_, rfl⟩
    rw [hP]
    have HP := Aside0.mk hP
    clear hP
    go_enter Try.func36, Try.ntmps36
    go_wp2_with (go_at_call 14; (with_reducible refine (iso_Check.calls k1 A0 c0 l 0 _ HR.out HC.out HK1.out).mono ?_); rintro e w1 ⟨rfl, hb⟩; have HB1 := Aside0.mk (HBX.out.trans (hb.mono HBX.out.size)); have HR1 := Aside0.mk (Kd.C_below HR.out hb); have HX := Aside0.mk (blk_below HX0.out hb); clear hb)
    have hxa := blk_cell HX.out 0
    have hxb := blk_cell HX.out 1
    by_cases ha : a < 0
    · have hab : decide (a < 0) = true := by simpa using ha
      have e := HP.out.symm.trans (if_pos (.inl ha))
      clear ha
      go_quiet (fail)
      go_wp2
      refine bodyPost_ret (results_tmp2 rfl _ _ _) rfl ?_
      exact ⟨.slice none 0 0, by rw [e]; rfl, by rw [e]; exact Kd.R_nil _ _ _ _ _, pw_below_drewN HB1.out _⟩
    · have hab : decide (a < 0) = false := by simpa using ha
      by_cases hb : b < a
      · have hbb : decide (b < a) = true := by simpa using hb
        have e := HP.out.symm.trans (if_pos (.inr (.inl hb)))
        clear ha hb
        go_quiet (fail)
        go_wp2
        refine bodyPost_ret (results_tmp2 rfl _ _ _) rfl ?_
        exact ⟨.slice none 0 0, by rw [e]; rfl, by rw [e]; exact Kd.R_nil _ _ _ _ _, pw_below_drewN HB1.out _⟩
      have hbb : decide (b < a) = false := by simpa using hb
      clear hxa hxb
      generalize w.heap.size = gX at HX ⊢
      refine start_ (n := 17) (S := fun w' => w'.cell? ⟨gX, 0, none⟩ = some (.int .i64 a) ∧ w'.cell? ⟨gX, 1, none⟩ = some (.int .i64 b)) (ds := []) #[false, false, false, false, false, false, false, false, false, false, false, false, false, false, false, false, false] (by kernel_rfl) rfl rfl ⟨(blk_cell HX.out 0).trans rfl, (blk_cell HX.out 1).trans rfl⟩ (fun hHeld => ?_)
      generalize hwy_ : w1.drew = wy at hHeld ⊢
      have HBD := hwy_ ▸ below_drew (Below.refl w1.heap.size w1)
      replace HB1 := Aside0.mk (below_then HB1.out HB1.out.size HBD)
      replace HR1 := Aside0.mk (Kd.C_below HR1.out HBD)
      replace HX := Aside0.mk (blk_below HX.out HBD)
      clear HBD
      clear hwy_
      refine pure_ (i := 0) (N := some 13) (v := ?_) (a' := ?_) #[true, false, false, false, false, false, false, false, false, false, false, false, false, false, false, false, false] rfl rfl (by kernel_rfl) (fun _ _ _ h => h) (Or.inl ⟨by rfl, ?_⟩) ?_ ?_
      rotate_left
      · intro w'
        go_simp
        with_reducible rfl
      rotate_left
      · simp only [Act.put, List.setIfInBounds_toArray, List.set_cons_zero, List.set_cons_succ, i64_w, i32_w]
        rfl
      refine take_ (i := 1) (N := some 14) (v := ?_) (a' := ?_) #[true, true, false, false, false, false, false, false, false, false, false, false, false, false, false, false, false] rfl rfl (by kernel_rfl) (fun _ _ _ h => h) (Or.inl ⟨by rfl, ?_⟩) hHeld ?_ ?_
      rotate_left
      · rintro w' ⟨s0, s1⟩
        go_simp
        with_reducible rfl
      rotate_left
      · simp only [Act.put, List.setIfInBounds_toArray, List.set_cons_zero, List.set_cons_succ, i64_w, i32_w]
        rfl
      refine pure_ (i := 2) (N := some 15) (v := ?_) (a' := ?_) #[true, true, true, false, false, false, false, false, false, false, false, false, false, false, false, false, false] rfl rfl (by kernel_rfl) (fun _ _ _ h => h) (Or.inl ⟨by rfl, ?_⟩) ?_ ?_
      rotate_left
      · intro w'
        go_simp
        with_reducible rfl
      rotate_left
      · simp only [Act.put, List.setIfInBounds_toArray, List.set_cons_zero, List.set_cons_succ, i64_w, i32_w]
        rfl
      refine pure_ (i := 3) (N := some 16) (v := ?_) (a' := ?_) #[true, true, true, true, false, false, false, false, false, false, false, false, false, false, false, false, false] rfl rfl (by kernel_rfl) (fun _ _ _ h => h) (Or.inl ⟨by rfl, ?_⟩) ?_ ?_
      rotate_left
      · intro w'
        go_simp
        with_reducible rfl
      rotate_left
      · simp only [Act.put, List.setIfInBounds_toArray, List.set_cons_zero, List.set_cons_succ, i64_w, i32_w]
        rfl
      refine pure_ (i := 4) (N := some 17) (v := ?_) (a' := ?_) #[true, true, true, true, true, false, false, false, false, false, false, false, false, false, false, false, false] rfl rfl (by kernel_rfl) (fun _ _ _ h => h) (Or.inl ⟨by rfl, ?_⟩) ?_ ?_
      rotate_left
      · intro w'
        go_simp
        with_reducible rfl
      rotate_left
      · simp only [Act.put, List.setIfInBounds_toArray, List.set_cons_zero, List.set_cons_succ, i64_w, i32_w]
        rfl
      refine pure_ (i := 6) (N := some 19) (v := ?_) (a' := ?_) #[true, true, true, true, true, false, true, false, false, false, false, false, false, false, false, false, false] rfl rfl (by kernel_rfl) (fun _ _ _ h => h) (Or.inl ⟨by rfl, ?_⟩) ?_ ?_
      rotate_left
      · intro w'
        go_simp
        with_reducible rfl
      rotate_left
      · simp only [Act.put, List.setIfInBounds_toArray, List.set_cons_zero, List.set_cons_succ, i64_w, i32_w]
        rfl
      refine take_ (i := 5) (N := some 18) (v := ?_) (a' := ?_) #[true, true, true, true, true, true, true, false, false, false, false, false, false, false, false, false, false] rfl rfl (by kernel_rfl) (fun _ _ _ h => h) (Or.inl ⟨by rfl, ?_⟩) hHeld ?_ ?_
      rotate_left
      · rintro w' ⟨s0, s1⟩
        go_simp
        with_reducible rfl
      rotate_left
      · simp only [Act.put, List.setIfInBounds_toArray, List.set_cons_zero, List.set_cons_succ, i64_w, i32_w]
        rfl
      refine take_ (i := 7) (N := some 20) (v := ?_) (a' := ?_) #[true, true, true, true, true, true, true, true, false, false, false, false, false, false, false, false, false] rfl rfl (by kernel_rfl) (fun _ _ _ h => h) (Or.inl ⟨by rfl, ?_⟩) hHeld ?_ ?_
      rotate_left
      · rintro w' ⟨s0, s1⟩
        go_simp
        with_reducible rfl
      rotate_left
      · simp only [Act.put, List.setIfInBounds_toArray, List.set_cons_zero, List.set_cons_succ, i64_w, i32_w]
        rfl
      refine pure_ (i := 8) (N := some 21) (v := ?_) (a' := ?_) #[true, true, true, true, true, true, true, true, true, false, false, false, false, false, false, false, false] rfl rfl (by kernel_rfl) (fun _ _ _ h => h) (Or.inl ⟨by rfl, ?_⟩) ?_ ?_
      rotate_left
      · intro w'
        go_simp
        with_reducible rfl
      rotate_left
      · simp only [Act.put, List.setIfInBounds_toArray, List.set_cons_zero, List.set_cons_succ, i64_w, i32_w]
        rfl
      refine pure_ (i := 9) (N := some 22) (v := ?_) (a' := ?_) #[true, true, true, true, true, true, true, true, true, true, false, false, false, false, false, false, false] rfl rfl (by kernel_rfl) (fun _ _ _ h => h) (Or.inl ⟨by rfl, ?_⟩) ?_ ?_
      rotate_left
      · intro w'
        go_simp
        with_reducible rfl
      rotate_left
      · simp only [Act.put, List.setIfInBounds_toArray, List.set_cons_zero, List.set_cons_succ, i64_w, i32_w]
        rfl
      refine pure_ (i := 10) (N := some 23) (v := ?_) (a' := ?_) #[true, true, true, true, true, true, true, true, true, true, true, false, false, false, false, false, false] rfl rfl (by kernel_rfl) (fun _ _ _ h => h) (Or.inl ⟨by rfl, ?_⟩) ?_ ?_
      rotate_left
      · intro w'
        go_simp
        with_reducible rfl
      rotate_left
      · simp only [Act.put, List.setIfInBounds_toArray, List.set_cons_zero, List.set_cons_succ, i64_w, i32_w]
        rfl
      refine pure_ (i := 11) (N := some 24) (v := ?_) (a' := ?_) #[true, true, true, true, true, true, true, true, true, true, true, true, false, false, false, false, false] rfl rfl (by kernel_rfl) (fun _ _ _ h => h) (Or.inl ⟨by rfl, ?_⟩) ?_ ?_
      rotate_left
      · intro w'
        go_simp
        with_reducible rfl
      rotate_left
      · simp only [Act.put, List.setIfInBounds_toArray, List.set_cons_zero, List.set_cons_succ, i64_w, i32_w]
        rfl
      refine pure_ (i := 13) (N := some 26) (v := ?_) (a' := ?_) #[true, true, true, true, true, true, true, true, true, true, true, true, false, true, false, false, false] rfl rfl (by kernel_rfl) (fun _ _ _ h => h) (Or.inl ⟨by rfl, ?_⟩) ?_ ?_
      rotate_left
      · intro w'
        go_simp
        with_reducible rfl
      rotate_left
      · simp only [Act.put, List.setIfInBounds_toArray, List.set_cons_zero, List.set_cons_succ, i64_w, i32_w]
        rfl
      refine take_ (i := 12) (N := some 25) (v := ?_) (a' := ?_) #[true, true, true, true, true, true, true, true, true, true, true, true, true, true, false, false, false] rfl rfl (by kernel_rfl) (fun _ _ _ h => h) (Or.inl ⟨by rfl, ?_⟩) hHeld ?_ ?_
      rotate_left
      · rintro w' ⟨s0, s1⟩
        go_simp
        with_reducible rfl
      rotate_left
      · simp only [Act.put, List.setIfInBounds_toArray, List.set_cons_zero, List.set_cons_succ, i64_w, i32_w]
        rfl
      refine one_ (i := 14) (N := some 27) #[true, true, true, true, true, true, true, true, true, true, true, true, true, true, true, false, false] rfl rfl (by kernel_rfl) (by decide) (fun K hK => ?_)
      refine goes_ Try.func43 (by kernel_rfl) rfl #[.slice A0 l.length c0] (by rfl) rfl rfl (by simp only [List.map_toArray, List.map_cons, List.map_nil]; rfl) ?_
      with_reducible refine (iso_length.calls k2 A0 c0 l T _ HR1.out HC.out HK2.out).mono ?_
      rintro e w3 ⟨rfl, hb3⟩
      refine ⟨_, rfl, ?_⟩
      replace HB1 := Aside0.mk (below_then HB1.out HB1.out.size hb3)
      replace HR1 := Aside0.mk (Kd.C_below HR1.out hb3)
      replace HX := Aside0.mk (blk_below HX.out hb3)
      clear hb3
      refine hK.out _ _ ⟨(blk_cell HX.out 0).trans rfl, (blk_cell HX.out 1).trans rfl⟩ (fun hHeld => ?_)
      clear hK K
      refine norm_ (a' := ?_) ?_ ?_
      rotate_left
      · show Act.put _ (some 27) _ = _
        simp only [Act.put, List.setIfInBounds_toArray, List.set_cons_zero, List.set_cons_succ, i64_w, i32_w]
        rfl
      refine pure_ (i := 15) (N := some 28) (v := ?_) (a' := ?_) #[true, true, true, true, true, true, true, true, true, true, true, true, true, true, true, true, false] rfl rfl (by kernel_rfl) (fun _ _ _ h => h) (Or.inl ⟨by rfl, ?_⟩) ?_ ?_
      rotate_left
      · intro w'
        go_simp
        with_reducible rfl
      rotate_left
      · simp only [Act.put, List.setIfInBounds_toArray, List.set_cons_zero, List.set_cons_succ, i64_w, i32_w]
        rfl
      refine pure_ (i := 16) (N := some 29) (v := ?_) (a' := ?_) #[true, true, true, true, true, true, true, true, true, true, true, true, true, true, true, true, true] rfl rfl (by kernel_rfl) (fun _ _ _ h => h) (Or.inl ⟨by rfl, ?_⟩) ?_ ?_
      rotate_left
      · intro w'
        go_simp
        with_reducible rfl
      rotate_left
      · simp only [Act.put, List.setIfInBounds_toArray, List.set_cons_zero, List.set_cons_succ, i64_w, i32_w]
        rfl
      refine done_ (by kernel_rfl) ?_
      by_cases hbT : T < b
      · have hTb : decide (T < b) = true := by simpa using hbT
        have e := HP.out.symm.trans (if_pos (.inr (.inr hbT)))
        clear ha hb
        have hTb2 : decide (b ≤ T) = false := by simpa using hbT
        go_wp2
        refine bodyPost_ret (results_tmp2 rfl _ _ _) rfl ?_
        exact ⟨.slice none 0 0, by rw [e]; rfl, by rw [e]; exact Kd.R_nil _ _ _ _ _, HB1.out⟩
      · have hTb : decide (T < b) = false := by simpa using hbT
        have e := HP.out.symm.trans (if_neg (by omega))
        have hx2 : (0 ≤ a ∧ a ≤ 1099511627776) ∧ 0 ≤ b ∧ b ≤ 1099511627776 := by have := hT.out; omega
        have hxa : ∀ o, (w3.alloc o).cell? ⟨gX, 0, none⟩ = some (.int .i64 a) := fun o => blk_cell (blk_alloc HX.out o) 0
        have hxb : ∀ o, (w3.alloc o).cell? ⟨gX, 1, none⟩ = some (.int .i64 b) := fun o => blk_cell (blk_alloc HX.out o) 1
        clear ha hb
        have hTb2 : decide (b ≤ T) = true := by simpa using hbT
        go_wp2_with (first | (go_at_call 46; (with_reducible refine (each_add w3.heap.size 65536 (BInv w3.heap.size) okPce (BDirty w3.heap.size) BInv.dirty BInv.mono BInv.step A0 c0 l a b [] w3 _ HR1.out HC.out (Nat.le_refl _) ((Below.refl _ _).alloc (Nat.le_refl _) _) (BInv.new w3) (by have := HLL.out; simp; omega) (by have := HLL.out; omega) HFI.out hx2.1 hx2.2 (fun r hr a n h1 h2 h3 => okPce_part (HG.out r hr) a n h1 h2 h3)).mono ?_); rintro e w4 ⟨rfl, hi, hb⟩; have HI4 := Aside0.mk hi; have HB4 := Aside0.mk hb; clear hi hb) | (go_at_call 50; (with_reducible refine (done_few w3.heap.size _ w4 HI4.out HEL.out).mono ?_); rintro e w5 ⟨v, rfl, ho, rfl⟩; have HO := Aside0.mk ho; clear ho))
        refine bodyPost_ret (results_tmp2 rfl _ _ _) rfl ?_
        exact ⟨v, by rw [e]; rfl, by rw [e, ← HE.out]; exact Kd.R_lower HO.out HB1.out.size, HB1.out.trans (HB4.out.mono HB1.out.size)⟩
  · have HK1 := Aside0.mk hk1
    have hne : (check13 l == 0) = false := by simpa using h0
    have hne1 : (check13 l != 0) = true := by simpa using h0
    rw [if_neg h0]
    clear hk1 h0
    generalize check13 l = q at *
    go_enter Try.func36, Try.ntmps36
    go_wp2_with (go_at_call 14; (with_reducible refine (iso_Check.calls k1 A0 c0 l q _ HR.out HC.out HK1.out).mono ?_); rintro e w1 ⟨rfl, hb⟩; have HB1 := Aside0.mk (HBX.out.trans (hb.mono HBX.out.size)); clear hb)
    refine bodyPost_ret (results_tmp2 rfl _ _ _) rfl ?_
    exact ⟨_, rfl, Kd.R_nil _ _ _ _ _, HB1.out⟩
theorem iso_Part.calls (A0 : Option Addr) (c0 : Nat) (l0 : List (S32)) (a1_0 : Int) (a1_1 : Int) (r1 : List (S32)) (r2 : Int) (w : World) (hr0 : Kd.C k32 w A0 l0.length l0) (hc0 : l0.length ≤ c0) (h : iso_Part.f l0 a1_0 a1_1 = some (r1, r2)) :
    Calls Try.prog 36 #[.slice A0 l0.length c0, .agg #[.int .i64 a1_0, .int .i64 a1_1]] w fun e w' => ∃ v0_ : Value, e = .returned (.tuple #[v0_, .int .i64 r2]) ∧ Kd.R k32 32 w' w.heap.size (fun _ => True) v0_ r1 ∧ Below w.heap.size w w' := by
  have e : partOf13 l0 a1_0 a1_1 = (r1, r2) := Option.some.inj h
  have := part_main A0 c0 l0 a1_0 a1_1 w hr0 hc0
  rw [e] at this
  exact this
end Go.Proofs.Ytcnkmdonbpgjiaa.G

namespace Go.Proofs.Ytcnkmdonbpgjiaa.G
open Go.RowKit Go.Proofs.YtcnkmdonbpgjiaaW.PrintWords Go.Proofs.YtcnkmdonbpgjiaaW.PrintLast Go.Proofs.YtcnkmdonbpgjiaaW.PrintMore
attribute [local go_sem] max2_int min2_int max_two min_two max_three min_three max_four min_four   -- for this text's walks alone
set_option linter.unusedVariables false
set_option linter.unusedSimpArgs false
set_option maxRecDepth 100000 in
set_option maxHeartbeats 8000000 in
theorem each_app (g N : Nat) (Inv : List S32 → World → Prop) (ok : S32 → Prop)
    (Dirty : World → Nat → Prop) (hd : ∀ ps W k, Inv ps W → Dirty W k → k < W.heap.size)
    (hmono : ∀ ps W W', Inv ps W → Below W.heap.size W W' → Inv ps W' ∧ ∀ k, Dirty W' k → Dirty W k)
    (hstep : ∀ ps r W, ps.length < N → Inv ps W → ok r → Calls Try.prog 48 #[.agg #[.int .i64 r.f0, .int .i64 r.f1, .bool r.f2], .pointer (some ⟨g, 0, none⟩)] W fun e W' => e = .returned (.tuple #[]) ∧ Inv (ps ++ [r]) W' ∧ Below g W W' ∧ ∀ X o, W.heap[X]? = some o → ¬ Dirty W X → W'.heap[X]? = some o)
    (A0 : Option Addr) (c0 : Nat) (m : List S32) (f t : Int) (ps0 : List S32) (w0 w : World) (hr : Kd.C k32 w0 A0 m.length m) (hc : m.length ≤ c0) (hg : w0.heap.size ≤ g) (hb : Below w0.heap.size w0 w) (hi : Inv ps0 w)
    (hN : ps0.length + m.length ≤ N) (hl : m.length ≤ 65536) (hm : ∀ r ∈ m, 0 ≤ r.f0 ∧ r.f0 ≤ 17179869184 ∧ 1 ≤ r.f1 ∧ r.f1 ≤ 17179869184) (hf : 0 ≤ f ∧ f ≤ 1099511627776) (ht : 0 ≤ t ∧ t ≤ 1099511627776)
    (hok : ∀ r ∈ m, ∀ a n, 0 ≤ a → 1 ≤ n → a + n ≤ r.f1 → ok (partR r a n)) :
    Calls Try.prog 46 #[.slice A0 m.length c0, .int .i64 f, .int .i64 t, .func (.func 48) #[] #[.pointer (some ⟨g, 0, none⟩)]] w fun e w' => e = .returned (.tuple #[]) ∧ Inv (ps0 ++ pieces m 0 f t) w' ∧ Below w0.heap.size w0 w' := by
  have HR := Aside0.mk hr
  have HC := Aside0.mk hc
  have HG := Aside0.mk hg
  have HM := Aside0.mk hm
  have HOK := Aside0.mk hok
  have HS := Aside0.mk hstep
  have HMo := Aside0.mk hmono
  have HD := Aside0.mk hd
  have HI := Aside0.mk hi
  have HB0 := Aside0.mk hb
  have HF := Aside0.mk hf
  have HT := Aside0.mk ht
  clear hr hc hg hm hok hstep hmono hi hb hf ht hd
  go_enter Try.func46, Try.ntmps46
  go_wp2
  go_loopw [8, 15] (fun a i wr => ∃ kk : Nat, i = .int .i64 kk ∧ a = .int .i64 (tot13 (m.take kk)) ∧ Aside0 (kk ≤ m.length) ∧ Aside0 (Inv (ps0 ++ pieces (m.take kk) 0 f t) wr) ∧ Aside0 (Below w0.heap.size w0 wr))
    (fun _ i _ => m.length - (intOf i).toNat)
  case atStart => exact ⟨0, rfl, by simp [tot13], ⟨Nat.zero_le _⟩, ⟨by simpa [pieces] using HI.out⟩, HB0⟩
  case round =>
    obtain ⟨kk, rfl, rfl, HK, HI1, HB⟩ := hrel
    by_cases hk : kk < m.length
    · have hk1 : (kk : Int) < (m.length : Int) := by omega
      have hd0 : decide (kk < m.length) = true := by simpa using hk
      obtain ⟨ad, rfl, hz0, hz1, hz2⟩ := at_T32 (Kd.C_below HR.out HB.out) (kk : Int) (by omega) hk1
      simp only [Int.toNat_natCast] at hz0 hz1 hz2
      have hpl := Aside0.mk (show (ps0 ++ pieces (m.take kk) 0 f t).length < N by have := pieces_len (m.take kk) 0 f t; rw [List.length_take] at this; rw [List.length_append]; omega)
      have hrm := Aside0.mk (show rd_T32 m kk ∈ m by simp [rd_T32, List.getD_eq_getElem?_getD, List.getElem?_eq_getElem hk])
      have hsn := Aside0.mk (show m.take (kk + 1) = m.take kk ++ [rd_T32 m kk] by rw [List.take_succ_eq_append_getElem hk]; simp [rd_T32, List.getD_eq_getElem?_getD, List.getElem?_eq_getElem hk])
      have hv := HM.out _ hrm.out
      have htb := tot13_bound (m.take kk) (fun r hr => by have := HM.out r (List.mem_of_mem_take hr); omega)
      have htl : (m.take kk).length ≤ 65536 := by rw [List.length_take]; omega
      have hpn := Aside0.mk (show pieces (m.take (kk + 1)) 0 f t = pieces (m.take kk) 0 f t ++ (if max f (tot13 (m.take kk)) < min t (tot13 (m.take kk) + (rd_T32 m kk).f1) then [partR (rd_T32 m kk) (max f (tot13 (m.take kk)) - tot13 (m.take kk)) (min t (tot13 (m.take kk) + (rd_T32 m kk).f1) - max f (tot13 (m.take kk)))] else []) by rw [hsn.out, pieces_append]; simp [pieces])
      have htn := Aside0.mk (show tot13 (m.take (kk + 1)) = tot13 (m.take kk) + (rd_T32 m kk).f1 by rw [hsn.out, tot13_append]; simp [tot13])
      have hokr := Aside0.mk (HOK.out _ hrm.out)
      generalize tot13 (m.take kk) = a at *
      generalize rd_T32 m kk = x at *
      have hw1 : wrap64 (a + x.f1) = a + x.f1 := by unfold wrap64; omega
      go_wp2
      go_quiet (fail)
      rename_i nq
      have e1 : (if f < a then a else f) = max f a := by split <;> omega
      have e2 : (if a + x.f1 < t then a + x.f1 else t) = min t (a + x.f1) := by split <;> omega
      rw [e1, e2]
      clear e1 e2
      have hp : 0 ≤ max f a ∧ max f a ≤ 1125904201809920 := by have := HF.out; omega
      have hq : min t (a + x.f1) ≤ 1099511627776 := by have := HT.out; omega
      have hp2 : a ≤ max f a := by omega
      have hq2 : min t (a + x.f1) ≤ a + x.f1 := by omega
      have HB1 := Aside0.mk (pw_below_drewN (HB.out.alloc HB.out.size (.cells #[.int .i64 x.f0, .int .i64 x.f1, .bool x.f2] 32)) nq)
      have HBw := Aside0.mk (pw_below_drewN ((Below.refl wr.heap.size wr).alloc (Nat.le_refl _) (.cells #[.int .i64 x.f0, .int .i64 x.f1, .bool x.f2] 32)) nq)
      have HX := Aside0.mk (blk_drewN (World.alloc_heap_new wr (.cells #[.int .i64 x.f0, .int .i64 x.f1, .bool x.f2] 32)) nq)
      have HI2 := Aside0.mk (HMo.out _ _ _ HI1.out HBw.out).1
      have HN := Aside0.mk (show ¬ Dirty ((wr.alloc (.cells #[.int .i64 x.f0, .int .i64 x.f1, .bool x.f2] 32)).drewN nq) wr.heap.size from fun h => Nat.lt_irrefl _ (HD.out _ _ _ HI1.out ((HMo.out _ _ _ HI1.out HBw.out).2 _ h)))
      generalize max f a = p at *
      generalize min t (a + x.f1) = q at *
      generalize (wr.alloc (.cells #[.int .i64 x.f0, .int .i64 x.f1, .bool x.f2] 32)).drewN nq = w1 at *
      have hz0' := blk_cell HX.out 0
      have hz1' := blk_cell HX.out 1
      have hz2' := blk_cell HX.out 2
      by_cases hpq : p < q
      · have hpqb : decide (p < q) = true := by simpa using hpq
        have e3 : wrap64 (p - a) = p - a := by unfold wrap64; omega
        have e4 : wrap64 (q - p) = q - p := by unfold wrap64; omega
        have hnx : nearR x := ⟨by omega, by omega, by omega⟩
        go_wp2_with (first | (go_at_call 65; (with_reducible refine (part_calls x (p - a) (q - p) _ hnx (by omega) (by omega)).mono ?_); rintro e w2 ⟨rfl, hb2⟩; have HB2 := Aside0.mk (below_then HB1.out HB1.out.size hb2); have HI3 := Aside0.mk (HMo.out _ _ _ HI2.out hb2).1; have HN3 := Aside0.mk (show ¬ Dirty w2 wr.heap.size from fun h => HN.out ((HMo.out _ _ _ HI2.out hb2).2 _ h)); have HX2 := Aside0.mk (blk_below HX.out hb2); clear hb2) | (go_at_call 48; (with_reducible refine (HS.out _ (partR x (p - a) (q - p)) _ hpl.out HI3.out (hokr.out _ _ (by omega) (by omega) (by omega))).mono ?_); rintro e w3 ⟨rfl, hi4, hb3, hfr⟩; have HI4 := Aside0.mk hi4; have HX3 := Aside0.mk (hfr _ _ HX2.out HN3.out); have HB3 := Aside0.mk (HB2.out.trans (hb3.mono HG.out)); clear hi4 hb3 hfr; have hy1 := blk_cell HX3.out 1))
        go_roundw
        case rel => exact ⟨kk + 1, by go_num, by rw [htn.out], ⟨by omega⟩, ⟨by rw [hpn.out, if_pos hpq, ← List.append_assoc]; exact HI4.out⟩, HB3⟩
        case measure => simp [intOf]; omega
      · have hpqb : decide (p < q) = false := by simpa using hpq
        go_wp2
        go_roundw
        case rel => exact ⟨kk + 1, by go_num, by rw [htn.out], ⟨by omega⟩, ⟨by rw [hpn.out, if_neg hpq, List.append_nil]; exact HI2.out⟩, HB1⟩
        case measure => simp [intOf]; omega
    · have hd0 : decide (kk < m.length) = false := by simpa using hk
      have hfin := Aside0.mk (show m.take kk = m from List.take_of_length_le (by omega))
      go_wp2
      (try simp only [Exit.inBlock, Exit.then]); refine bodyPost_end (results_none rfl _ _ _) rfl ?_
      exact ⟨rfl, by have := HI1.out; rwa [hfin.out] at this, HB.out⟩
set_option maxRecDepth 100000 in
set_option maxHeartbeats 8000000 in
theorem each_at (g N : Nat) (Inv : List S32 → World → Prop) (ok : S32 → Prop)
    (Dirty : World → Nat → Prop) (hd : ∀ ps W k, Inv ps W → Dirty W k → k < W.heap.size)
    (hmono : ∀ ps W W', Inv ps W → Below W.heap.size W W' → Inv ps W' ∧ ∀ k, Dirty W' k → Dirty W k)
    (hstep : ∀ ps r W, ps.length < N → Inv ps W → ok r → Calls Try.prog 55 #[.agg #[.int .i64 r.f0, .int .i64 r.f1, .bool r.f2], .pointer (some ⟨g, 0, none⟩)] W fun e W' => e = .returned (.tuple #[]) ∧ Inv (ps ++ [r]) W' ∧ Below g W W' ∧ ∀ X o, W.heap[X]? = some o → ¬ Dirty W X → W'.heap[X]? = some o)
    (A0 : Option Addr) (c0 : Nat) (m : List S32) (f t : Int) (ps0 : List S32) (w0 w : World) (hr : Kd.C k32 w0 A0 m.length m) (hc : m.length ≤ c0) (hg : w0.heap.size ≤ g) (hb : Below w0.heap.size w0 w) (hi : Inv ps0 w)
    (hN : ps0.length + m.length ≤ N) (hl : m.length ≤ 65536) (hm : ∀ r ∈ m, 0 ≤ r.f0 ∧ r.f0 ≤ 17179869184 ∧ 1 ≤ r.f1 ∧ r.f1 ≤ 17179869184) (hf : 0 ≤ f ∧ f ≤ 1099511627776) (ht : 0 ≤ t ∧ t ≤ 1099511627776)
    (hok : ∀ r ∈ m, ∀ a n, 0 ≤ a → 1 ≤ n → a + n ≤ r.f1 → ok (partR r a n)) :
    Calls Try.prog 46 #[.slice A0 m.length c0, .int .i64 f, .int .i64 t, .func (.func 55) #[] #[.pointer (some ⟨g, 0, none⟩)]] w fun e w' => e = .returned (.tuple #[]) ∧ Inv (ps0 ++ pieces m 0 f t) w' ∧ Below w0.heap.size w0 w' := by
  have HR := Aside0.mk hr
  have HC := Aside0.mk hc
  have HG := Aside0.mk hg
  have HM := Aside0.mk hm
  have HOK := Aside0.mk hok
  have HS := Aside0.mk hstep
  have HMo := Aside0.mk hmono
  have HD := Aside0.mk hd
  have HI := Aside0.mk hi
  have HB0 := Aside0.mk hb
  have HF := Aside0.mk hf
  have HT := Aside0.mk ht
  clear hr hc hg hm hok hstep hmono hi hb hf ht hd
  go_enter Try.func46, Try.ntmps46
  go_wp2
  go_loopw [8, 15] (fun a i wr => ∃ kk : Nat, i = .int .i64 kk ∧ a = .int .i64 (tot13 (m.take kk)) ∧ Aside0 (kk ≤ m.length) ∧ Aside0 (Inv (ps0 ++ pieces (m.take kk) 0 f t) wr) ∧ Aside0 (Below w0.heap.size w0 wr))
    (fun _ i _ => m.length - (intOf i).toNat)
  case atStart => exact ⟨0, rfl, by simp [tot13], ⟨Nat.zero_le _⟩, ⟨by simpa [pieces] using HI.out⟩, HB0⟩
  case round =>
    obtain ⟨kk, rfl, rfl, HK, HI1, HB⟩ := hrel
    by_cases hk : kk < m.length
    · have hk1 : (kk : Int) < (m.length : Int) := by omega
      have hd0 : decide (kk < m.length) = true := by simpa using hk
      obtain ⟨ad, rfl, hz0, hz1, hz2⟩ := at_T32 (Kd.C_below HR.out HB.out) (kk : Int) (by omega) hk1
      simp only [Int.toNat_natCast] at hz0 hz1 hz2
      have hpl := Aside0.mk (show (ps0 ++ pieces (m.take kk) 0 f t).length < N by have := pieces_len (m.take kk) 0 f t; rw [List.length_take] at this; rw [List.length_append]; omega)
      have hrm := Aside0.mk (show rd_T32 m kk ∈ m by simp [rd_T32, List.getD_eq_getElem?_getD, List.getElem?_eq_getElem hk])
      have hsn := Aside0.mk (show m.take (kk + 1) = m.take kk ++ [rd_T32 m kk] by rw [List.take_succ_eq_append_getElem hk]; simp [rd_T32, List.getD_eq_getElem?_getD, List.getElem?_eq_getElem hk])
      have hv := HM.out _ hrm.out
      have htb := tot13_bound (m.take kk) (fun r hr => by have := HM.out r (List.mem_of_mem_take hr); omega)
      have htl : (m.take kk).length ≤ 65536 := by rw [List.length_take]; omega
      have hpn := Aside0.mk (show pieces (m.take (kk + 1)) 0 f t = pieces (m.take kk) 0 f t ++ (if max f (tot13 (m.take kk)) < min t (tot13 (m.take kk) + (rd_T32 m kk).f1) then [partR (rd_T32 m kk) (max f (tot13 (m.take kk)) - tot13 (m.take kk)) (min t (tot13 (m.take kk) + (rd_T32 m kk).f1) - max f (tot13 (m.take kk)))] else []) by rw [hsn.out, pieces_append]; simp [pieces])
      have htn := Aside0.mk (show tot13 (m.take (kk + 1)) = tot13 (m.take kk) + (rd_T32 m kk).f1 by rw [hsn.out, tot13_append]; simp [tot13])
      have hokr := Aside0.mk (HOK.out _ hrm.out)
      generalize tot13 (m.take kk) = a at *
      generalize rd_T32 m kk = x at *
      have hw1 : wrap64 (a + x.f1) = a + x.f1 := by unfold wrap64; omega
      go_wp2
      go_quiet (fail)
      rename_i nq
      have e1 : (if f < a then a else f) = max f a := by split <;> omega
      have e2 : (if a + x.f1 < t then a + x.f1 else t) = min t (a + x.f1) := by split <;> omega
      rw [e1, e2]
      clear e1 e2
      have hp : 0 ≤ max f a ∧ max f a ≤ 1125904201809920 := by have := HF.out; omega
      have hq : min t (a + x.f1) ≤ 1099511627776 := by have := HT.out; omega
      have hp2 : a ≤ max f a := by omega
      have hq2 : min t (a + x.f1) ≤ a + x.f1 := by omega
      have HB1 := Aside0.mk (pw_below_drewN (HB.out.alloc HB.out.size (.cells #[.int .i64 x.f0, .int .i64 x.f1, .bool x.f2] 32)) nq)
      have HBw := Aside0.mk (pw_below_drewN ((Below.refl wr.heap.size wr).alloc (Nat.le_refl _) (.cells #[.int .i64 x.f0, .int .i64 x.f1, .bool x.f2] 32)) nq)
      have HX := Aside0.mk (blk_drewN (World.alloc_heap_new wr (.cells #[.int .i64 x.f0, .int .i64 x.f1, .bool x.f2] 32)) nq)
      have HI2 := Aside0.mk (HMo.out _ _ _ HI1.out HBw.out).1
      have HN := Aside0.mk (show ¬ Dirty ((wr.alloc (.cells #[.int .i64 x.f0, .int .i64 x.f1, .bool x.f2] 32)).drewN nq) wr.heap.size from fun h => Nat.lt_irrefl _ (HD.out _ _ _ HI1.out ((HMo.out _ _ _ HI1.out HBw.out).2 _ h)))
      generalize max f a = p at *
      generalize min t (a + x.f1) = q at *
      generalize (wr.alloc (.cells #[.int .i64 x.f0, .int .i64 x.f1, .bool x.f2] 32)).drewN nq = w1 at *
      have hz0' := blk_cell HX.out 0
      have hz1' := blk_cell HX.out 1
      have hz2' := blk_cell HX.out 2
      by_cases hpq : p < q
      · have hpqb : decide (p < q) = true := by simpa using hpq
        have e3 : wrap64 (p - a) = p - a := by unfold wrap64; omega
        have e4 : wrap64 (q - p) = q - p := by unfold wrap64; omega
        have hnx : nearR x := ⟨by omega, by omega, by omega⟩
        go_wp2_with (first | (go_at_call 65; (with_reducible refine (part_calls x (p - a) (q - p) _ hnx (by omega) (by omega)).mono ?_); rintro e w2 ⟨rfl, hb2⟩; have HB2 := Aside0.mk (below_then HB1.out HB1.out.size hb2); have HI3 := Aside0.mk (HMo.out _ _ _ HI2.out hb2).1; have HN3 := Aside0.mk (show ¬ Dirty w2 wr.heap.size from fun h => HN.out ((HMo.out _ _ _ HI2.out hb2).2 _ h)); have HX2 := Aside0.mk (blk_below HX.out hb2); clear hb2) | (go_at_call 55; (with_reducible refine (HS.out _ (partR x (p - a) (q - p)) _ hpl.out HI3.out (hokr.out _ _ (by omega) (by omega) (by omega))).mono ?_); rintro e w3 ⟨rfl, hi4, hb3, hfr⟩; have HI4 := Aside0.mk hi4; have HX3 := Aside0.mk (hfr _ _ HX2.out HN3.out); have HB3 := Aside0.mk (HB2.out.trans (hb3.mono HG.out)); clear hi4 hb3 hfr; have hy1 := blk_cell HX3.out 1))
        go_roundw
        case rel => exact ⟨kk + 1, by go_num, by rw [htn.out], ⟨by omega⟩, ⟨by rw [hpn.out, if_pos hpq, ← List.append_assoc]; exact HI4.out⟩, HB3⟩
        case measure => simp [intOf]; omega
      · have hpqb : decide (p < q) = false := by simpa using hpq
        go_wp2
        go_roundw
        case rel => exact ⟨kk + 1, by go_num, by rw [htn.out], ⟨by omega⟩, ⟨by rw [hpn.out, if_neg hpq, List.append_nil]; exact HI2.out⟩, HB1⟩
        case measure => simp [intOf]; omega
    · have hd0 : decide (kk < m.length) = false := by simpa using hk
      have hfin := Aside0.mk (show m.take kk = m from List.take_of_length_le (by omega))
      go_wp2
      (try simp only [Exit.inBlock, Exit.then]); refine bodyPost_end (results_none rfl _ _ _) rfl ?_
      exact ⟨rfl, by have := HI1.out; rwa [hfin.out] at this, HB.out⟩
end Go.Proofs.Ytcnkmdonbpgjiaa.G

namespace Go.Proofs.Ytcnkmdonbpgjiaa.G
open Go.RowKit Go.Proofs.YtcnkmdonbpgjiaaW.PrintWords Go.Proofs.YtcnkmdonbpgjiaaW.PrintLast Go.Proofs.YtcnkmdonbpgjiaaW.PrintMore
attribute [local go_sem] max2_int min2_int max_two min_two max_three min_three max_four min_four   -- for this text's walks alone
set_option linter.unusedVariables false
set_option linter.unusedSimpArgs false
structure PBld (g : Nat) (v : Value) (l : List S32) (W : World) : Prop where
  c : W.heap[g]? = some (.cells #[v] 22 (0, 0))
  o : Kd.R k32 32 W g (fun k => k ≠ g) v l
def PInv (g : Nat) (ps : List S32) (W : World) : Prop := ∃ v, PBld g v ps W
theorem PBld.cell {g : Nat} {v : Value} {l : List S32} {W : World} (h : PBld g v l W) : W.cell? ⟨g, 0, none⟩ = some v := blk_cell h.c 0
theorem PInv.dirty {g : Nat} : ∀ ps W k, PInv g ps W → BDirty g W k → k < W.heap.size := by
  rintro ps W k ⟨v, hB⟩ (rfl | ⟨u, hu, hk⟩)
  · exact blk_lt hB.c
  · rw [hB.cell] at hu
    cases hu
    exact Kd.R_lt hB.o k hk
theorem PInv.mono {g : Nat} : ∀ ps W W', PInv g ps W → Below W.heap.size W W' → PInv g ps W' ∧ ∀ k, BDirty g W' k → BDirty g W k := by
  rintro ps W W' ⟨v, hB⟩ hb
  have hB' : PBld g v ps W' := ⟨blk_below hB.c hb, Kd.R_below hB.o hb⟩
  refine ⟨⟨v, hB'⟩, ?_⟩
  rintro k (rfl | ⟨u, hu, hk⟩)
  · exact .inl rfl
  · rw [hB'.cell] at hu
    cases hu
    exact .inr ⟨v, hB.cell, hk⟩
theorem PInv.new (w : World) : PInv w.heap.size [] (w.alloc (.cells #[.slice none 0 0] 22)) := ⟨.slice none 0 0, World.alloc_heap_new w _, Kd.R_nil _ _ _ _ _⟩
set_option maxRecDepth 100000 in
set_option maxHeartbeats 8000000 in
theorem PInv.step {g : Nat} : ∀ ps r W, ps.length < 65536 → PInv g ps W → True → Calls Try.prog 48 #[.agg #[.int .i64 r.f0, .int .i64 r.f1, .bool r.f2], .pointer (some ⟨g, 0, none⟩)] W fun e W' => e = .returned (.tuple #[]) ∧ PInv g (ps ++ [r]) W' ∧ Below g W W' ∧ ∀ X o, W.heap[X]? = some o → ¬ BDirty g W X → W'.heap[X]? = some o := by
  rintro l r W hn ⟨v, hB⟩ _
  obtain ⟨A, c, e, _, _⟩ := Kd.R_reads hB.o
  subst e
  have HDR := Aside0.mk (show ∀ X, ¬ BDirty g W X → X ≠ g ∧ some X ≠ (Value.slice A l.length c).ownBlock from fun X h => ⟨fun e => h (.inl e), fun e => h (.inr ⟨_, hB.cell, e.symm⟩)⟩)
  have hBW := (Below.refl W.heap.size W).alloc (Nat.le_refl _) (.cells #[.int .i64 r.f0, .int .i64 r.f1, .bool r.f2] 32)
  have HC := Aside0.mk (blk_below hB.c hBW)
  have HO := Aside0.mk (Kd.R_below hB.o hBW)
  have HB := Aside0.mk (hBW.mono (Nat.le_of_lt (blk_lt hB.c)))
  have HBW := Aside0.mk hBW
  have HZ := Aside0.mk (Nat.le_trans (Nat.le_of_lt (blk_lt hB.c)) hBW.size)
  have HL := Aside0.mk hn
  have hq := blk_cell HC.out 0
  have hr0 := blk_cell (World.alloc_heap_new W (.cells #[.int .i64 r.f0, .int .i64 r.f1, .bool r.f2] 32)) 0
  clear hB hBW hn
  go_enter Try.func48, Try.ntmps48
  go_wp2_with (at_builtin; refine Kd.R_append k32 (w0 := W) g rfl (.tmp 3) (.tmp 5) 22 32 (.agg #[(.int .i64 0), (.int .i64 0), (.bool false)]) 24 rfl Try.underlying22 info32 rfl (by decide) (by omega) (.slice A l.length c) l r [.int .i64 r.f0, .int .i64 r.f1, .bool r.f2] (fun k => k ≠ g) (fun _ => False) rfl ?ax ?aP (fun _ hk => hk.elim) ?aF ?aO ?aB ?aS ?aL ?_; (case ax => first | rfl | (rw [World.size_alloc]; rfl) | (simp; done) | (simp; rfl)); (case aP => exact k32_mkM _ _ _ r); (case aB => exact HB.out); (case aF => exact fun k hk => by have := blk_lt HC.out; omega); (case aO => exact HO.out); (case aS => exact HZ.out); (case aL => have := HL.out; omega); intro v' w5 ho hb5 hg5 hat5; have HC5 := Aside0.mk (blk_grown HC.out hg5 (fun e => HO.out.1 g e.symm rfl)); have HO5 := Aside0.mk ho; have HB5 := Aside0.mk hb5; have HG5 := Aside0.mk hg5; clear ho hb5 hg5 hat5; obtain ⟨A5, c5, e5, _, _⟩ := Kd.R_reads HO5.out; subst e5; have hgc := blk_cell HC5.out 0; have hgf : w5.frozen? ⟨g, 0, none⟩ = false := (by simp [World.frozen?, HC5.out]))
  (try simp only [Exit.inBlock, Exit.then]); refine bodyPost_end (results_none rfl _ _ _) rfl ?_
  have e2 : l.length + 1 = (l ++ [r]).length := by simp
  rw [e2]
  refine ⟨rfl, ⟨_, blk_set HC5.out 0 _, Kd.R_far HO5.out (fun k hk => hk) _⟩, HB5.out.setCell (p := ⟨g, 0, none⟩) (Nat.le_refl _) _, fun X o hX hd => ?_⟩
  obtain ⟨h1, h2⟩ := HDR.out X hd
  exact (Below.heap_setCell w5 ⟨g, 0, none⟩ _ X h1).trans (blk_grown (blk_below hX HBW.out) HG5.out h2)
def CInv (g : Nat) (w1 : World) (v2 : Value) (q ps : List S32) (W : World) : Prop :=
  (∀ r ∈ ps, okPce r) ∧ (∃ v, Bld g v (ps.foldl addOf []) W ∧ ∀ k, v2.ownBlock = some k → v.ownBlock ≠ some k ∧ k ≠ g) ∧ Kd.R k32 32 W 0 (fun k => v2.ownBlock = some k) v2 q ∧ Below g w1 W
theorem CInv.run {g : Nat} {w1 : World} {v2 : Value} {q ps : List S32} {W : World} (h : CInv g w1 v2 q ps W) : BRun g w1 ps W := by
  obtain ⟨h1, ⟨v, hB, _⟩, _, h4⟩ := h
  exact ⟨⟨h1, v, hB⟩, h4⟩
theorem CInv.dirty {g : Nat} {w1 : World} {v2 : Value} {q : List S32} : ∀ ps W k, CInv g w1 v2 q ps W → BDirty g W k → k < W.heap.size := fun ps W k h => BRun.dirty ps W k h.run
theorem CInv.mono {g : Nat} {w1 : World} {v2 : Value} {q : List S32} : ∀ ps W W', CInv g w1 v2 q ps W → Below W.heap.size W W' → CInv g w1 v2 q ps W' ∧ ∀ k, BDirty g W' k → BDirty g W k := by
  intro ps W W' h hb
  have h2 := BRun.mono ps W W' h.run hb
  obtain ⟨h1, ⟨v, hB, hv⟩, h3, h4⟩ := h
  exact ⟨⟨h1, ⟨v, hB.below hb, hv⟩, Kd.R_below h3 hb, h2.1.2⟩, h2.2⟩
theorem CInv.step {g : Nat} {w1 : World} {v2 : Value} {q : List S32} : ∀ ps r W, ps.length < 65536 → CInv g w1 v2 q ps W → okPce r → Calls Try.prog 47 #[.pointer (some ⟨g, 0, none⟩), .agg #[.int .i64 r.f0, .int .i64 r.f1, .bool r.f2]] W fun e W' => e = .returned (.tuple #[]) ∧ CInv g w1 v2 q (ps ++ [r]) W' ∧ Below g W W' ∧ ∀ X o, W.heap[X]? = some o → ¬ BDirty g W X → W'.heap[X]? = some o := by
  rintro ps r W hn ⟨h1, ⟨v, hB, hv⟩, h3, h4⟩ hr
  have hin := fold_in ps [] 0 (by omega) (by simp) h1
  have hlen := addAll_len ps []
  simp only [List.length_nil] at hlen
  refine (add_main g v _ r W hB ⟨by have := hr.1; omega, by have := hr.2.1; omega, by have := hr.2.2; omega⟩ (by omega) (fun t ht => by have := hin t ht; unfold inB at this; omega)).mono ?_
  rintro e W' ⟨rfl, ⟨v', hB', hO⟩, hb, hk⟩
  have hlt : ∀ k, v2.ownBlock = some k → k < W.heap.size := Kd.R_lt h3
  refine ⟨rfl, ⟨fun x hx => ?_, ⟨v', by rw [List.foldl_append]; exact hB', fun k hk2 => ⟨fun e => ?_, (hv k hk2).2⟩⟩, Kd.R_move h3 (fun k hk2 => ?_), h4.trans hb⟩, hb, fun X o hX hd => hk X o hX (fun e => hd (.inl e)) (fun e => hd (.inr ⟨v, hB.cell, e⟩))⟩
  · rcases List.mem_append.mp hx with hx | hx
    · exact h1 x hx
    · rw [List.mem_singleton.mp hx]; exact hr
  · rcases hO k e with e2 | e2
    · exact (hv k hk2).1 e2
    · have := hlt k hk2; omega
  · have hl := hlt k hk2
    obtain ⟨o, ho⟩ : ∃ o, W.heap[k]? = some o := ⟨W.heap[k], Array.getElem?_eq_getElem hl⟩
    rw [ho]
    exact hk k o ho (hv k hk2).2 (hv k hk2).1
end Go.Proofs.Ytcnkmdonbpgjiaa.G

namespace Go.Proofs.Ytcnkmdonbpgjiaa.G
open Go.RowKit Go.Proofs.YtcnkmdonbpgjiaaW.PrintWords Go.Proofs.YtcnkmdonbpgjiaaW.PrintLast Go.Proofs.YtcnkmdonbpgjiaaW.PrintMore
set_option linter.unusedVariables false
set_option linter.unusedSimpArgs false
theorem pieces_mem (b : List S32) : ∀ (at_ f t : Int), ∀ p ∈ pieces b at_ f t, ∃ r ∈ b, ∃ x n, p = partR r x n ∧ 0 ≤ x ∧ 1 ≤ n ∧ x + n ≤ r.f1 := by
  induction b with
  | nil => intro at_ f t p hp; simp [pieces] at hp
  | cons r b ih =>
    intro at_ f t p hp
    simp only [pieces, List.mem_append] at hp
    rcases hp with hp | hp
    · split at hp
      · rename_i hc
        simp only [List.mem_singleton] at hp
        exact ⟨r, by simp, _, _, hp, by omega, by omega, by omega⟩
      · simp at hp
    · obtain ⟨q, hq, h⟩ := ih _ _ _ p hp
      exact ⟨q, by simp [hq], h⟩
theorem piece_fit {r : S32} (h : ¬ badR r) (x n : Int) (h0 : 0 ≤ x) (h1 : 1 ≤ n) (h2 : x + n ≤ r.f1) : (0 ≤ (partR r x n).f0 ∧ (partR r x n).f0 ≤ 17179869184 ∧ 1 ≤ (partR r x n).f1 ∧ (partR r x n).f1 ≤ 17179869184) ∧ okPce (revR (partR r x n)) := by
  have e := img_part r x n (n - 1) (by omega) (by omega)
  unfold badR at h
  have hf1 : (partR r x n).f1 = n := rfl
  have hf0 : (partR r x n).f0 = img r x := rfl
  have hr0 : (revR (partR r x n)).f0 = img r (x + (n - 1)) := by rw [← e]; rfl
  have hr1 : (revR (partR r x n)).f1 = n := rfl
  unfold okPce
  rw [hf1, hf0, hr0, hr1]
  unfold img
  cases hb : r.f2 <;> simp [hb] at h ⊢ <;> omega
def lookOf (b : List Int) (y : Int) : Int := b.getD y.toNat 0
def farR (n : Int) (r : S32) : Bool := decide (n ≤ max r.f0 (img r (r.f1 - 1)))
def compP (b : List S32) (r : S32) : List S32 := if r.f2 = true then revL (pieces b 0 (r.f0 - r.f1 + 1) (r.f0 + 1)) else pieces b 0 r.f0 (r.f0 + r.f1)
def psOf (b a : List S32) : List S32 := a.flatMap (compP b)
theorem compP_pos (b : List S32) (r : S32) : ∀ p ∈ compP b r, 1 ≤ p.f1 := by
  unfold compP
  split
  · exact revL_pos _ (pieces_pos b _ _ _)
  · exact pieces_pos b _ _ _
theorem compP_len (b : List S32) (r : S32) : (compP b r).length ≤ b.length := by
  unfold compP
  split
  · rw [revL_len]; exact pieces_len b _ _ _
  · exact pieces_len b _ _ _
theorem psOf_len (b : List S32) : ∀ a : List S32, (psOf b a).length ≤ a.length * b.length
  | [] => by simp [psOf]
  | r :: a => by
    have h1 := psOf_len b a
    have h2 := compP_len b r
    have e : psOf b (r :: a) = compP b r ++ psOf b a := by simp [psOf]
    rw [e, List.length_append, List.length_cons, Nat.add_mul]
    omega
theorem psOf_snoc (b a : List S32) (r : S32) : psOf b (a ++ [r]) = psOf b a ++ compP b r := by simp [psOf]
theorem sem_compP (b : List S32) (hb : check13 b = 0) (r : S32) (hr : ¬ badR r) (hf : farR (tot13 b) r = false) : sem (compP b r) = (imgs r).map (lookOf (sem b)) := by
  have hg := (check13_zero hb).2.1
  have hp1 : ∀ x ∈ b, 1 ≤ x.f1 := fun x hx => (fit_of (hg x hx)).2.2.1
  have hT := sem_tot hb
  unfold farR at hf
  simp only [decide_eq_false_iff_not, Int.not_le] at hf
  have hfit := fit_of hr
  unfold fitR at hfit
  have hbad := hr
  unfold badR at hbad
  obtain ⟨f, n, q⟩ := r
  dsimp only at *
  cases q with
  | false =>
    have hi : img (⟨f, n, false⟩ : S32) (n - 1) = f + (n - 1) := by simp [img]
    rw [hi] at hf
    have e0 : compP b ⟨f, n, false⟩ = pieces b 0 f (f + n) := by simp [compP]
    rw [e0, sem_pieces b 0 f (f + n) hp1, Int.sub_zero, Int.sub_zero]
    apply List.ext_getElem?
    intro i
    rw [List.getElem?_drop, List.getElem?_take, List.getElem?_map]
    by_cases hin : (i : Int) < n
    · rw [if_pos (by omega), imgs_get _ _ hin]
      have hlt : f.toNat + i < (sem b).length := by omega
      have e1 : img (⟨f, n, false⟩ : S32) (i : Int) = f + i := by simp [img]
      have e2 : (f + (i : Int)).toNat = f.toNat + i := by omega
      rw [List.getElem?_eq_getElem hlt, e1]
      simp [lookOf, e2, List.getD_eq_getElem?_getD, List.getElem?_eq_getElem hlt]
    · rw [if_neg (by omega), List.getElem?_eq_none (by rw [imgs_len]; dsimp only; omega)]
      rfl
  | true =>
    have hi : img (⟨f, n, true⟩ : S32) (n - 1) = f - (n - 1) := by simp [img]
    rw [hi] at hf
    simp at hbad
    have e0 : compP b ⟨f, n, true⟩ = revL (pieces b 0 (f - n + 1) (f + 1)) := by simp [compP]
    rw [e0, sem_rev _ (pieces_pos b _ _ _), sem_pieces b 0 (f - n + 1) (f + 1) hp1, Int.sub_zero, Int.sub_zero]
    have hlen : (((sem b).take (f + 1).toNat).drop (f - n + 1).toNat).length = n.toNat := by rw [List.length_drop, List.length_take]; omega
    apply List.ext_getElem?
    intro i
    rw [List.getElem?_map]
    by_cases hin : (i : Int) < n
    · rw [List.getElem?_reverse (by omega), hlen, List.getElem?_drop, List.getElem?_take, if_pos (by omega), imgs_get _ _ hin]
      have hlt : (f - n + 1).toNat + (n.toNat - 1 - i) < (sem b).length := by omega
      have e1 : img (⟨f, n, true⟩ : S32) (i : Int) = f - i := by simp [img]
      have e2 : (f - (i : Int)).toNat = (f - n + 1).toNat + (n.toNat - 1 - i) := by omega
      rw [List.getElem?_eq_getElem hlt, e1]
      simp [lookOf, e2, List.getD_eq_getElem?_getD, List.getElem?_eq_getElem hlt]
    · rw [List.getElem?_eq_none (by rw [List.length_reverse]; omega), List.getElem?_eq_none (by rw [imgs_len]; dsimp only; omega)]
      rfl
theorem sem_psOf (b : List S32) (hb : check13 b = 0) : ∀ a : List S32, (∀ r ∈ a, ¬ badR r) → (∀ r ∈ a, farR (tot13 b) r = false) → sem (psOf b a) = (sem a).map (lookOf (sem b))
  | [], _, _ => rfl
  | r :: a, h1, h2 => by
    have e : psOf b (r :: a) = compP b r ++ psOf b a := by simp [psOf]
    rw [e, sem_append, sem_psOf b hb a (fun x hx => h1 x (by simp [hx])) (fun x hx => h2 x (by simp [hx])), sem_compP b hb r (h1 r (by simp)) (h2 r (by simp)), sem_cons, List.map_append]
theorem comp_fold (a b : List S32) (hb : check13 b = 0) (h1 : ∀ r ∈ a, ¬ badR r) (h2 : ∀ r ∈ a, farR (tot13 b) r = false) : (psOf b a).foldl addOf [] = nrm ((sem a).map (lookOf (sem b))) := by
  rw [addAll _ (fun p hp => by
    obtain ⟨r, _, hp⟩ := List.mem_flatMap.mp hp
    exact compP_pos b r p hp), sem_psOf b hb a h1 h2]
end Go.Proofs.Ytcnkmdonbpgjiaa.G

namespace Go.Proofs.Ytcnkmdonbpgjiaa.G
open Go.RowKit Go.Proofs.YtcnkmdonbpgjiaaW.PrintWords Go.Proofs.YtcnkmdonbpgjiaaW.PrintLast Go.Proofs.YtcnkmdonbpgjiaaW.PrintMore
attribute [local go_sem] max2_int min2_int max_two min_two max_three min_three max_four min_four   -- for this text's walks alone
set_option linter.unusedVariables false
set_option linter.unusedSimpArgs false
def compOf13 (a b : List S32) : List S32 × Int := if check13 a = 0 then (if check13 b = 0 then (if a.any (farR (tot13 b)) = true then ([], 21) else if (nrm ((sem a).map (lookOf (sem b)))).length > 256 then ([], 8) else (nrm ((sem a).map (lookOf (sem b))), 0)) else ([], check13 b)) else ([], check13 a)
def iso_Compose.f (l0 l1 : List S32) : Option (List S32 × Int) := some (compOf13 l0 l1)
theorem CInv.start {g g2 : Nat} {wr w2 w7 : World} {v2 : Value} {q ps : List S32} (h : BRun g wr ps w2) (hb : Below w2.heap.size w2 w7) (hp : PBld g2 v2 q w7) (h2 : w2.heap.size ≤ g2) : CInv g wr v2 q ps w7 := by
  have h3 := BRun.mono ps w2 w7 h hb
  obtain ⟨⟨h1, v, hB⟩, _⟩ := h
  refine ⟨h1, ⟨v, hB.below hb, fun k hk => ?_⟩, Kd.R_lower (Kd.R_mono (Kd.R_tight rfl hp.o) (fun k hk => hk.symm)) (Nat.zero_le _), h3.1.2⟩
  have hbase := Kd.R_base hp.o k hk
  have hlt := hB.lt
  exact ⟨fun e => by have := (hB.base e).2; omega, by omega⟩
set_option maxRecDepth 100000 in
set_option maxHeartbeats 32000000 in
theorem comp_far (a b : List S32) (A0 : Option Addr) (c0 : Nat) (A1 : Option Addr) (c1 : Nat) (w : World) (hr0 : Kd.C k32 w A0 a.length a) (hc0 : a.length ≤ c0) (hr1 : Kd.C k32 w A1 b.length b) (hc1 : b.length ≤ c1) (h0 : check13 a = 0) (h1 : check13 b = 0) :
    Calls Try.prog 18 #[.slice A0 a.length c0, .slice A1 b.length c1] w fun e w' => ∃ v, e = .returned (.tuple #[v, .int .i64 (compOf13 a b).2]) ∧ Kd.R k32 32 w' w.heap.size (fun _ => True) v (compOf13 a b).1 ∧ Below w.heap.size w w' := by
  have HR0 := Aside0.mk hr0
  have HC0 := Aside0.mk hc0
  have HR1 := Aside0.mk hr1
  have HC1 := Aside0.mk hc1
  clear hr0 hc0 hr1 hc1
  obtain ⟨k1, hk1⟩ := (icheck_ends a).get
  obtain ⟨k2, hk2⟩ := (icheck_ends b).get
  unfold compOf13
  obtain ⟨hla, hga, hta⟩ := check13_zero h0
  obtain ⟨hlb, hgb, htb⟩ := check13_zero h1
  have hfb : ∀ r ∈ b, fitR r := fun r hr => fit_of (hgb r hr)
  obtain ⟨k3, hk3⟩ := (ilength_ends b (by omega) (fun r hr => by have := hfb r hr; unfold fitR at this; omega)).get
  have HK3 := Aside0.mk hk3
  have HCF := Aside0.mk (comp_fold a b h1 hga)
  rw [h0] at hk1
  rw [h1] at hk2
  have HK1 := Aside0.mk hk1
  have HK2 := Aside0.mk hk2
  have HLA := Aside0.mk hla
  have HLB := Aside0.mk hlb
  have HGA := Aside0.mk hga
  have HGB := Aside0.mk hgb
  have HFB := Aside0.mk (show ∀ r ∈ b, 0 ≤ r.f0 ∧ r.f0 ≤ 17179869184 ∧ 1 ≤ r.f1 ∧ r.f1 ≤ 17179869184 from hfb)
  have hT := Aside0.mk (show 0 ≤ tot13 b ∧ tot13 b ≤ 17179869184 by have := tot_nonneg h1; omega)
  rw [if_pos h0, if_pos h1]
  clear hk1 hk2 hk3 h0 h1 hla hga hta hlb hgb htb hfb
  generalize tot13 b = T at *
  obtain ⟨P, hP⟩ : ∃ P, (if a.any (farR T) = true then (([], 21) : List S32 × Int) else if (nrm ((sem a).map (lookOf (sem b)))).length > 256 then ([], 8) else (nrm ((sem a).map (lookOf (sem b))), 0)) = P := ⟨_, rfl⟩
  rw [hP]
  have HP := Aside0.mk hP
  clear hP
  go_enter Try.func18, Try.ntmps18
  go_wp2_with (first | (go_at_call 14; (with_reducible refine (iso_Check.calls k1 A0 c0 a 0 _ HR0.out HC0.out HK1.out).mono ?_); rintro e w1 ⟨rfl, hb⟩; have HB1 := Aside0.mk hb; have HR1a := Aside0.mk (Kd.C_below HR1.out hb); clear hb) | (go_at_call 14; (with_reducible refine (iso_Check.calls k2 A1 c1 b 0 _ HR1a.out HC1.out HK2.out).mono ?_); rintro e w2 ⟨rfl, hb⟩; have HB2 := Aside0.mk (below_then HB1.out HB1.out.size hb); have HR1b := Aside0.mk (Kd.C_below HR1a.out hb); clear hb) | (go_at_call 43; (with_reducible refine (iso_length.calls k3 A1 c1 b T _ HR1b.out HC1.out HK3.out).mono ?_); rintro e w3 ⟨rfl, hb⟩; have HB3 := Aside0.mk (below_then HB2.out HB2.out.size hb); clear hb))
  go_loopw [29] (fun i wr => ∃ kk : Nat, i = .int .i64 kk ∧ Aside0 (kk ≤ a.length) ∧ Aside0 (∀ r ∈ a.take kk, farR T r = false) ∧ Aside0 (Below w.heap.size w wr))
    (fun i _ => a.length - (intOf i).toNat)
  case atStart => exact ⟨0, rfl, ⟨Nat.zero_le _⟩, ⟨by simp⟩, HB3⟩
  case round =>
    obtain ⟨kk, rfl, HK, HN, HB⟩ := hrel
    have hla2 : a.length ≤ 256 := HLA.out
    by_cases hk : kk < a.length
    · have hk1 : (kk : Int) < (a.length : Int) := by omega
      have hd0 : decide (kk < a.length) = true := by simpa using hk
      obtain ⟨ad, rfl, hz0, hz1, hz2⟩ := at_T32 (Kd.C_below HR0.out HB.out) (kk : Int) (by omega) hk1
      simp only [Int.toNat_natCast] at hz0 hz1 hz2
      have hrm := Aside0.mk (show rd_T32 a kk ∈ a by simp [rd_T32, List.getD_eq_getElem?_getD, List.getElem?_eq_getElem hk])
      have hsn := Aside0.mk (show a.take (kk + 1) = a.take kk ++ [rd_T32 a kk] by rw [List.take_succ_eq_append_getElem hk]; simp [rd_T32, List.getD_eq_getElem?_getD, List.getElem?_eq_getElem hk])
      have hv := fit_of (HGA.out _ hrm.out)
      unfold fitR at hv
      generalize rd_T32 a kk = r at *
      have hnr : nearR r := ⟨by omega, by omega, by omega⟩
      have HIM := Aside0.mk (show ∀ W, Calls Try.prog 45 #[.agg #[.int .i64 r.f0, .int .i64 r.f1, .bool r.f2], .int .i64 (wrap64 (r.f1 - 1))] W fun e w' => e = .returned (.int .i64 (img r (r.f1 - 1))) ∧ Below W.heap.size W w' from fun W => by
        have e : wrap64 (r.f1 - 1) = r.f1 - 1 := by unfold wrap64; omega
        rw [e]
        exact iso_image.calls _ _ _ _ _ W (image_is r (r.f1 - 1) hnr (by omega) (by omega)))
      have HX := Aside0.mk (World.alloc_heap_new wr (.cells #[.int .i64 r.f0, .int .i64 r.f1, .bool r.f2] 32))
      have HBY := Aside0.mk (HB.out.alloc HB.out.size (.cells #[.int .i64 r.f0, .int .i64 r.f1, .bool r.f2] 32))
      go_wp2
      clear hz0 hz1 hz2
      generalize wr.alloc _ = wx at *
      generalize wr.heap.size = gX at *
      refine start_ (n := 10) (S := fun w' => w'.cell? ⟨gX, 0, none⟩ = some (.int .i64 r.f0) ∧ w'.cell? ⟨gX, 1, none⟩ = some (.int .i64 r.f1) ∧ w'.cell? ⟨gX, 2, none⟩ = some (.bool r.f2)) (ds := []) #[false, false, false, false, false, false, false, false, false, false] (by kernel_rfl) rfl rfl ⟨(blk_cell HX.out 0).trans rfl, (blk_cell HX.out 1).trans rfl, (blk_cell HX.out 2).trans rfl⟩ (fun hHeld => ?_)
      generalize hwy_ : wx.drew = wy at hHeld ⊢
      have HBD := hwy_ ▸ below_drew (Below.refl wx.heap.size wx)
      replace HBY := Aside0.mk (below_then HBY.out HBY.out.size HBD)
      replace HX := Aside0.mk (blk_below HX.out HBD)
      clear HBD
      clear hwy_
      refine pure_ (i := 0) (N := some 33) (v := ?_) (a' := ?_) #[true, false, false, false, false, false, false, false, false, false] rfl rfl (by kernel_rfl) (fun _ _ _ h => h) (Or.inl ⟨by rfl, ?_⟩) ?_ ?_
      rotate_left
      · intro w'
        go_simp
        with_reducible rfl
      rotate_left
      · simp only [Act.put, List.setIfInBounds_toArray, List.set_cons_zero, List.set_cons_succ, i64_w, i32_w]
        rfl
      refine pure_ (i := 3) (N := some 36) (v := ?_) (a' := ?_) #[true, false, false, true, false, false, false, false, false, false] rfl rfl (by kernel_rfl) (fun _ _ _ h => h) (Or.inl ⟨by rfl, ?_⟩) ?_ ?_
      rotate_left
      · intro w'
        go_simp
        with_reducible rfl
      rotate_left
      · simp only [Act.put, List.setIfInBounds_toArray, List.set_cons_zero, List.set_cons_succ, i64_w, i32_w]
        rfl
      refine pure_ (i := 8) (N := some 41) (v := ?_) (a' := ?_) #[true, false, false, true, false, false, false, false, true, false] rfl rfl (by kernel_rfl) (fun _ _ _ h => h) (Or.inl ⟨by rfl, ?_⟩) ?_ ?_
      rotate_left
      · intro w'
        go_simp
        with_reducible rfl
      rotate_left
      · simp only [Act.put, List.setIfInBounds_toArray, List.set_cons_zero, List.set_cons_succ, i64_w, i32_w]
        rfl
      refine take_ (i := 1) (N := some 34) (v := ?_) (a' := ?_) #[true, true, false, true, false, false, false, false, true, false] rfl rfl (by kernel_rfl) (fun _ _ _ h => h) (Or.inl ⟨by rfl, ?_⟩) hHeld ?_ ?_
      rotate_left
      · rintro w' ⟨s0, s1, s2⟩
        go_simp
        with_reducible rfl
      rotate_left
      · simp only [Act.put, List.setIfInBounds_toArray, List.set_cons_zero, List.set_cons_succ, i64_w, i32_w]
        rfl
      refine take_ (i := 2) (N := some 35) (v := ?_) (a' := ?_) #[true, true, true, true, false, false, false, false, true, false] rfl rfl (by kernel_rfl) (fun _ _ _ h => h) (Or.inl ⟨by rfl, ?_⟩) hHeld ?_ ?_
      rotate_left
      · rintro w' ⟨s0, s1, s2⟩
        go_simp
        with_reducible rfl
      rotate_left
      · simp only [Act.put, List.setIfInBounds_toArray, List.set_cons_zero, List.set_cons_succ, i64_w, i32_w]
        rfl
      refine take_ (i := 4) (N := some 37) (v := ?_) (a' := ?_) #[true, true, true, true, true, false, false, false, true, false] rfl rfl (by kernel_rfl) (fun _ _ _ h => h) (Or.inl ⟨by rfl, ?_⟩) hHeld ?_ ?_
      rotate_left
      · rintro w' ⟨s0, s1, s2⟩
        go_simp
        with_reducible rfl
      rotate_left
      · simp only [Act.put, List.setIfInBounds_toArray, List.set_cons_zero, List.set_cons_succ, i64_w, i32_w]
        rfl
      refine pure_ (i := 5) (N := some 38) (v := ?_) (a' := ?_) #[true, true, true, true, true, true, false, false, true, false] rfl rfl (by kernel_rfl) (fun _ _ _ h => h) (Or.inl ⟨by rfl, ?_⟩) ?_ ?_
      rotate_left
      · intro w'
        go_simp
        with_reducible rfl
      rotate_left
      · simp only [Act.put, List.setIfInBounds_toArray, List.set_cons_zero, List.set_cons_succ, i64_w, i32_w]
        rfl
      refine one_ (i := 6) (N := some 39) #[true, true, true, true, true, true, true, false, true, false] rfl rfl (by kernel_rfl) (by decide) (fun K hK => ?_)
      refine goes_ Try.func45 (by kernel_rfl) rfl #[.agg #[.int .i64 r.f0, .int .i64 r.f1, .bool r.f2], .int .i64 (wrap64 (r.f1 - 1))] (by rfl) rfl rfl (by simp only [List.map_toArray, List.map_cons, List.map_nil]; rfl) ?_
      with_reducible refine (HIM.out _).mono ?_
      rintro e w5 ⟨rfl, hb5⟩
      refine ⟨_, rfl, ?_⟩
      replace HBY := Aside0.mk (below_then HBY.out HBY.out.size hb5)
      replace HX := Aside0.mk (blk_below HX.out hb5)
      clear hb5
      refine hK.out _ _ ⟨(blk_cell HX.out 0).trans rfl, (blk_cell HX.out 1).trans rfl, (blk_cell HX.out 2).trans rfl⟩ (fun hHeld => ?_)
      clear hK K
      refine norm_ (a' := ?_) ?_ ?_
      rotate_left
      · show Act.put _ (some 39) _ = _
        simp only [Act.put, List.setIfInBounds_toArray, List.set_cons_zero, List.set_cons_succ, i64_w, i32_w]
        rfl
      refine pure_ (i := 7) (N := some 40) (v := ?_) (a' := ?_) #[true, true, true, true, true, true, true, true, true, false] rfl rfl (by kernel_rfl) (fun _ _ _ h => h) (Or.inl ⟨by rfl, ?_⟩) ?_ ?_
      rotate_left
      · intro w'
        go_simp
        with_reducible rfl
      rotate_left
      · simp only [Act.put, List.setIfInBounds_toArray, List.set_cons_zero, List.set_cons_succ, i64_w, i32_w]
        rfl
      refine pure_ (i := 9) (N := some 42) (v := ?_) (a' := ?_) #[true, true, true, true, true, true, true, true, true, true] rfl rfl (by kernel_rfl) (fun _ _ _ h => h) (Or.inl ⟨by rfl, ?_⟩) ?_ ?_
      rotate_left
      · intro w'
        go_simp
        with_reducible rfl
      rotate_left
      · simp only [Act.put, List.setIfInBounds_toArray, List.set_cons_zero, List.set_cons_succ, i64_w, i32_w]
        rfl
      refine done_ (by kernel_rfl) ?_
      have e1 : (if r.f0 < img r (r.f1 - 1) then img r (r.f1 - 1) else r.f0) = max r.f0 (img r (r.f1 - 1)) := by split <;> omega
      have hfr : farR T r = decide (T ≤ max r.f0 (img r (r.f1 - 1))) := rfl
      rw [e1]
      generalize max r.f0 (img r (r.f1 - 1)) = M at *
      by_cases hM : T ≤ M
      · have hMb : decide (T ≤ M) = true := by simpa using hM
        have e := HP.out.symm.trans (if_pos (List.any_eq_true.mpr ⟨r, hrm.out, by rw [hfr]; exact hMb⟩))
        go_wp2
        refine bodyPost_ret (results_tmp2 rfl _ _ _) rfl ?_
        exact ⟨.slice none 0 0, by rw [e]; rfl, by rw [e]; exact Kd.R_nil _ _ _ _ _, HBY.out⟩
      · have hMb : decide (T ≤ M) = false := by simpa using hM
        go_wp2
        go_roundw
        case rel => exact ⟨kk + 1, by go_num, ⟨by omega⟩, ⟨by
          intro x hx
          rw [hsn.out, List.mem_append] at hx
          rcases hx with hx | hx
          · exact HN.out x hx
          · rw [List.mem_singleton.mp hx, hfr]; exact hMb⟩, HBY⟩
        case measure => simp [intOf]; omega
    · have hd0 : decide (kk < a.length) = false := by simpa using hk
      have hnf : ∀ r ∈ a, farR T r = false := by have := HN.out; rwa [List.take_of_length_le (by omega)] at this
      have HE := Aside0.mk (HCF.out hnf)
      have e0 := HP.out.symm.trans (if_neg (by intro h; obtain ⟨r, hr, h2⟩ := List.any_eq_true.mp h; rw [hnf r hr] at h2; cases h2))
      have HE0 := Aside0.mk e0
      clear HP e0 HCF
      have HRA := Aside0.mk (Kd.C_below HR0.out HB.out)
      have HRB := Aside0.mk (Kd.C_below HR1.out HB.out)
      have HNF := Aside0.mk hnf
      clear hnf HN
      generalize wr = wb at *
      go_wp2
      go_loopw [46] (fun i W => ∃ kk : Nat, i = .int .i64 kk ∧ Aside0 (kk ≤ a.length) ∧ Aside0 (BRun wb.heap.size wb (psOf b (a.take kk)) W))
        (fun i _ => a.length - (intOf i).toNat)
      case atStart => exact ⟨0, rfl, ⟨Nat.zero_le _⟩, ⟨by simpa [psOf] using (show BRun wb.heap.size wb [] _ from ⟨BInv.new wb, (Below.refl _ _).alloc (Nat.le_refl _) _⟩)⟩⟩
      case round =>
        obtain ⟨kk2, rfl, HK2', HI⟩ := hrel
        by_cases hk2 : kk2 < a.length
        · have hk1 : (kk2 : Int) < (a.length : Int) := by omega
          have hd1 : decide (kk2 < a.length) = true := by simpa using hk2
          obtain ⟨ad, rfl, hz0, hz1, hz2⟩ := at_T32 (Kd.C_below HRA.out HI.out.2) (kk2 : Int) (by omega) hk1
          simp only [Int.toNat_natCast] at hz0 hz1 hz2
          have hrm := Aside0.mk (show rd_T32 a kk2 ∈ a by simp [rd_T32, List.getD_eq_getElem?_getD, List.getElem?_eq_getElem hk2])
          have hsn := Aside0.mk (show a.take (kk2 + 1) = a.take kk2 ++ [rd_T32 a kk2] by rw [List.take_succ_eq_append_getElem hk2]; simp [rd_T32, List.getD_eq_getElem?_getD, List.getElem?_eq_getElem hk2])
          have hv := fit_of (HGA.out _ hrm.out)
          unfold fitR at hv
          have hpl := psOf_len b (a.take kk2)
          have HPL := Aside0.mk (show (psOf b (a.take kk2)).length + b.length ≤ 65536 by
            rw [List.length_take, Nat.min_eq_left (by omega)] at hpl
            have h2 : kk2 * b.length + b.length ≤ 256 * 256 := by
              rw [← Nat.succ_mul]; exact Nat.mul_le_mul (by omega) HLB.out
            omega)
          clear hpl
          generalize rd_T32 a kk2 = r at *
          have hw1 : wrap64 (r.f0 + r.f1) = r.f0 + r.f1 := by unfold wrap64; omega
          have hw2 : wrap64 (r.f0 - r.f1) = r.f0 - r.f1 := by unfold wrap64; omega
          have hw3 : wrap64 (r.f0 - r.f1 + 1) = r.f0 - r.f1 + 1 := by unfold wrap64; omega
          have hw4 : wrap64 (r.f0 + 1) = r.f0 + 1 := by unfold wrap64; omega
          have hvb := HGA.out _ hrm.out
          have HX := Aside0.mk (World.alloc_heap_new wr (.cells #[.int .i64 r.f0, .int .i64 r.f1, .bool r.f2] 32))
          have HBX := Aside0.mk ((Below.refl wr.heap.size wr).alloc (Nat.le_refl _) (.cells #[.int .i64 r.f0, .int .i64 r.f1, .bool r.f2] 32))
          have HRI := Aside0.mk (BRun.mono _ _ _ HI.out HBX.out).1
          obtain ⟨ra, rn, rb⟩ := r
          dsimp only at *
          cases rb with
          | false =>
            go_wp2_with (go_at_call 46; (refine (each_add wb.heap.size 65536 (BInv wb.heap.size) okPce (BDirty wb.heap.size) BInv.dirty BInv.mono BInv.step A1 c1 b ra (ra + rn) (psOf b (a.take kk2)) wb _ HRB.out HC1.out (Nat.le_refl _) HRI.out.2 HRI.out.1 HPL.out (by have := HLB.out; omega) HFB.out (by omega) (by omega) (fun r hr x n h1 h2 h3 => okPce_part (HGB.out r hr) x n h1 h2 h3)).mono ?_); rintro e w7 ⟨rfl, hi, hb⟩; have HI7 := Aside0.mk (show BRun wb.heap.size wb _ w7 from ⟨hi, hb⟩); clear hi hb)
            go_roundw
            case rel => exact ⟨kk2 + 1, by go_num, ⟨by omega⟩, ⟨by rw [hsn.out, psOf_snoc]; exact HI7.out⟩⟩
            case measure => simp [intOf]; omega
          | true =>
            have HP0 := Aside0.mk (show PInv (wr.heap.size + 1) [] ((wr.alloc (.cells #[.int .i64 ra, .int .i64 rn, .bool true] 32)).alloc (.cells #[.slice none 0 0] 22)) from by have := PInv.new (wr.alloc (.cells #[.int .i64 ra, .int .i64 rn, .bool true] 32)); rwa [World.size_alloc] at this)
            have HCb := Aside0.mk (Kd.C_below HRB.out HRI.out.2)
            have hxa : ∀ o, ((wr.alloc (.cells #[.int .i64 ra, .int .i64 rn, .bool true] 32)).alloc o).cell? ⟨wr.heap.size, 0, none⟩ = some (.int .i64 ra) := fun o => blk_cell (blk_alloc HX.out o) 0
            have hxb : ∀ o, ((wr.alloc (.cells #[.int .i64 ra, .int .i64 rn, .bool true] 32)).alloc o).cell? ⟨wr.heap.size, 1, none⟩ = some (.int .i64 rn) := fun o => blk_cell (blk_alloc HX.out o) 1
            have hxs : (wr.alloc (.cells #[.int .i64 ra, .int .i64 rn, .bool true] 32)).heap.size = wr.heap.size + 1 := World.size_alloc _ _
            have HQL := Aside0.mk (show ([] ++ pieces b 0 (ra - rn + 1) (ra + 1)).length ≤ b.length from pieces_len b _ _ _)
            have HQM := Aside0.mk (show ∀ p ∈ [] ++ pieces b 0 (ra - rn + 1) (ra + 1), (0 ≤ p.f0 ∧ p.f0 ≤ 17179869184 ∧ 1 ≤ p.f1 ∧ p.f1 ≤ 17179869184) ∧ okPce (revR p) from fun p hp => by
              obtain ⟨r, hr, x, n, rfl, h1, h2, h3⟩ := pieces_mem b _ _ _ p hp
              exact piece_fit (HGB.out r hr) x n h1 h2 h3)
            unfold badR at hvb
            simp at hvb
            go_wp2_with (first | (go_at_call 46; (refine (each_app (wr.heap.size + 1) 65536 (PInv (wr.heap.size + 1)) (fun _ => True) (BDirty (wr.heap.size + 1)) PInv.dirty PInv.mono PInv.step A1 c1 b (ra - rn + 1) (ra + 1) [] (wr.alloc (.cells #[.int .i64 ra, .int .i64 rn, .bool true] 32)) _ HCb.out HC1.out (by omega) ((Below.refl _ _).alloc (Nat.le_refl _) _) HP0.out (by have := HLB.out; simp; omega) (by have := HLB.out; omega) HFB.out (by omega) (by omega) (fun r hr x n h1 h2 h3 => trivial)).mono ?_); rintro e w8 ⟨rfl, ⟨v2, hp⟩, hb⟩; have HB8 := Aside0.mk (HBX.out.trans (hb.mono (by omega))); have HCI := Aside0.mk (CInv.start HI.out HB8.out hp (by omega)); clear hb; obtain ⟨A2, c2, e2, hc2, hr2⟩ := Kd.R_reads hp.o; subst e2; have hcp := hp.cell; have HC2 := Aside0.mk hc2; clear hp hr2 hc2) | (go_at_call 49; (refine (reversed_add wb.heap.size 65536 wb.heap.size (CInv wb.heap.size wb (.slice A2 ([] ++ pieces b 0 (ra - rn + 1) (ra + 1)).length c2) ([] ++ pieces b 0 (ra - rn + 1) (ra + 1))) okPce (BDirty wb.heap.size) CInv.dirty CInv.mono CInv.step A2 c2 ([] ++ pieces b 0 (ra - rn + 1) (ra + 1)) (psOf b (a.take kk2)) w8 (fun ps W h => (Kd.R_reads' h.2.2.1).2.2) HC2.out (Nat.le_trans HI.out.2.size HB8.out.size) HCI.out (by have := HQL.out; have := HPL.out; omega) (by have := HQL.out; have := HLB.out; omega) (fun p hp => (HQM.out p hp).1) (fun p hp => (HQM.out p hp).2)).mono ?_); rintro e w9 ⟨rfl, hi, _⟩; have HI9 := Aside0.mk hi.run; clear hi))
            go_roundw
            case rel => exact ⟨kk2 + 1, by go_num, ⟨by omega⟩, ⟨by rw [hsn.out, psOf_snoc]; exact HI9.out⟩⟩
            case measure => simp [intOf]; omega
        · have hd1 : decide (kk2 < a.length) = false := by simpa using hk2
          have HI2 := Aside0.mk (show BRun wb.heap.size wb (psOf b a) wr from by have := HI.out; rwa [List.take_of_length_le (by omega)] at this)
          have hpl := psOf_len b a
          have hpl2 := addAll_len (psOf b a) []
          have hab : a.length * b.length ≤ 256 * 256 := Nat.mul_le_mul HLA.out HLB.out
          have hmil : ((psOf b a).foldl addOf []).length ≤ 1000000 := by simp at hpl2; omega
          obtain ⟨⟨_, v, hB⟩, hbb⟩ := HI2.out
          have HDN := done_calls wb.heap.size v _ wr hB hmil
          have hO := HE.out
          have hP := HE0.out
          rw [← hO] at hP
          have HVO := Aside0.mk (Kd.R_lower (Kd.R_mono hB.o (fun _ _ => trivial)) HB.out.size : Kd.R k32 32 wr w.heap.size (fun _ => True) v ((psOf b a).foldl addOf []))
          have HBB := Aside0.mk (HB.out.trans (hbb.mono HB.out.size))
          clear hpl hpl2 hab hmil hB hbb hO
          generalize (psOf b a).foldl addOf [] = L at *
          by_cases hL : L.length > 256
          · rw [if_pos hL] at HDN hP
            have HD := Aside0.mk HDN
            clear HDN
            go_wp2_with (go_at_call 50; (with_reducible refine HD.out.mono ?_); rintro e w9 ⟨rfl, hw9⟩)
            refine bodyPost_ret (results_tmp2 rfl _ _ _) rfl ?_
            subst hw9
            exact ⟨.slice none 0 0, by rw [hP]; rfl, by rw [hP]; exact Kd.R_nil _ _ _ _ _, HBB.out⟩
          · rw [if_neg hL] at HDN hP
            have HD := Aside0.mk HDN
            clear HDN
            go_wp2_with (go_at_call 50; (with_reducible refine HD.out.mono ?_); rintro e w9 ⟨rfl, hw9⟩)
            refine bodyPost_ret (results_tmp2 rfl _ _ _) rfl ?_
            subst hw9
            exact ⟨v, by rw [hP]; rfl, by rw [hP]; exact HVO.out, HBB.out⟩
set_option maxRecDepth 100000 in
set_option maxHeartbeats 8000000 in
theorem comp_main (a b : List S32) (A0 : Option Addr) (c0 : Nat) (A1 : Option Addr) (c1 : Nat) (w : World) (hr0 : Kd.C k32 w A0 a.length a) (hc0 : a.length ≤ c0) (hr1 : Kd.C k32 w A1 b.length b) (hc1 : b.length ≤ c1) :
    Calls Try.prog 18 #[.slice A0 a.length c0, .slice A1 b.length c1] w fun e w' => ∃ v, e = .returned (.tuple #[v, .int .i64 (compOf13 a b).2]) ∧ Kd.R k32 32 w' w.heap.size (fun _ => True) v (compOf13 a b).1 ∧ Below w.heap.size w w' := by
  by_cases h0 : check13 a = 0
  · by_cases h1 : check13 b = 0
    · exact comp_far a b A0 c0 A1 c1 w hr0 hc0 hr1 hc1 h0 h1
    · have HR0 := Aside0.mk hr0
      have HC0 := Aside0.mk hc0
      have HR1 := Aside0.mk hr1
      have HC1 := Aside0.mk hc1
      obtain ⟨k1, hk1⟩ := (icheck_ends a).get
      obtain ⟨k2, hk2⟩ := (icheck_ends b).get
      unfold compOf13
      rw [h0] at hk1
      have HK1 := Aside0.mk hk1
      have HK2 := Aside0.mk hk2
      have hne : (check13 b == 0) = false := by simpa using h1
      have hne1 : (check13 b != 0) = true := by simpa using h1
      rw [if_pos h0, if_neg h1]
      clear hk1 hk2 h0 h1 hr0 hc0 hr1 hc1
      generalize check13 b = q at *
      go_enter Try.func18, Try.ntmps18
      go_wp2_with (first | (go_at_call 14; (with_reducible refine (iso_Check.calls k1 A0 c0 a 0 _ HR0.out HC0.out HK1.out).mono ?_); rintro e w1 ⟨rfl, hb⟩; have HB1 := Aside0.mk hb; have HR1a := Aside0.mk (Kd.C_below HR1.out hb); clear hb) | (go_at_call 14; (with_reducible refine (iso_Check.calls k2 A1 c1 b q _ HR1a.out HC1.out HK2.out).mono ?_); rintro e w2 ⟨rfl, hb⟩; have HB2 := Aside0.mk (below_then HB1.out HB1.out.size hb); clear hb))
      refine bodyPost_ret (results_tmp2 rfl _ _ _) rfl ?_
      exact ⟨_, rfl, Kd.R_nil _ _ _ _ _, HB2.out⟩
  · have HR0 := Aside0.mk hr0
    have HC0 := Aside0.mk hc0
    have HR1 := Aside0.mk hr1
    obtain ⟨k1, hk1⟩ := (icheck_ends a).get
    unfold compOf13
    have HK1 := Aside0.mk hk1
    have hne : (check13 a == 0) = false := by simpa using h0
    have hne1 : (check13 a != 0) = true := by simpa using h0
    rw [if_neg h0]
    clear hk1 h0 hr0 hc0 hr1 hc1
    generalize check13 a = q at *
    go_enter Try.func18, Try.ntmps18
    go_wp2_with (go_at_call 14; (with_reducible refine (iso_Check.calls k1 A0 c0 a q _ HR0.out HC0.out HK1.out).mono ?_); rintro e w1 ⟨rfl, hb⟩; have HB1 := Aside0.mk hb; clear hb)
    refine bodyPost_ret (results_tmp2 rfl _ _ _) rfl ?_
    exact ⟨_, rfl, Kd.R_nil _ _ _ _ _, HB1.out⟩
theorem iso_Compose.calls (A0 : Option Addr) (c0 : Nat) (l0 : List (S32)) (A1 : Option Addr) (c1 : Nat) (l1 : List (S32)) (r1 : List (S32)) (r2 : Int) (w : World) (hr0 : Kd.C k32 w A0 l0.length l0) (hc0 : l0.length ≤ c0) (hr1 : Kd.C k32 w A1 l1.length l1) (hc1 : l1.length ≤ c1) (h : iso_Compose.f l0 l1 = some (r1, r2)) :
    Calls Try.prog 18 #[.slice A0 l0.length c0, .slice A1 l1.length c1] w fun e w' => ∃ v0_ : Value, e = .returned (.tuple #[v0_, .int .i64 r2]) ∧ Kd.R k32 32 w' w.heap.size (fun _ => True) v0_ r1 ∧ Below w.heap.size w w' := by
  have e : compOf13 l0 l1 = (r1, r2) := Option.some.inj h
  have := comp_main l0 l1 A0 c0 A1 c1 w hr0 hc0 hr1 hc1
  rw [e] at this
  exact this
end Go.Proofs.Ytcnkmdonbpgjiaa.G

namespace Go.Proofs.Ytcnkmdonbpgjiaa.G
open Go.RowKit Go.Proofs.YtcnkmdonbpgjiaaW.PrintWords Go.Proofs.YtcnkmdonbpgjiaaW.PrintLast Go.Proofs.YtcnkmdonbpgjiaaW.PrintMore
attribute [local go_sem] max2_int min2_int max_two min_two max_three min_three max_four min_four   -- for this text's walks alone
set_option linter.unusedVariables false
set_option linter.unusedSimpArgs false
def lastF (ps : List S32) : Int := ps.foldl (fun _ r => r.f0) 0
def YInv (g : Nat) (ps : List S32) (W : World) : Prop := W.heap[g]? = some (.cells #[.int .i64 (lastF ps)] 3 (0, 0))
def YDirty (g : Nat) (W : World) (k : Nat) : Prop := k = g ∧ k < W.heap.size
theorem YInv.dirty {g : Nat} : ∀ ps W k, YInv g ps W → YDirty g W k → k < W.heap.size := fun _ _ _ _ h => h.2
theorem YInv.mono {g : Nat} : ∀ ps W W', YInv g ps W → Below W.heap.size W W' → YInv g ps W' ∧ ∀ k, YDirty g W' k → YDirty g W k :=
  fun ps W W' h hb => ⟨blk_below h hb, fun k hk => ⟨hk.1, by rw [hk.1]; exact blk_lt h⟩⟩
set_option maxRecDepth 100000 in
set_option maxHeartbeats 4000000 in
theorem YInv.step {g : Nat} : ∀ ps r W, ps.length < 65536 → YInv g ps W → True → Calls Try.prog 55 #[.agg #[.int .i64 r.f0, .int .i64 r.f1, .bool r.f2], .pointer (some ⟨g, 0, none⟩)] W fun e W' => e = .returned (.tuple #[]) ∧ YInv g (ps ++ [r]) W' ∧ Below g W W' ∧ ∀ X o, W.heap[X]? = some o → ¬ YDirty g W X → W'.heap[X]? = some o := by
  intro ps r W _ hI _
  have HI := Aside0.mk hI
  have hq : (W.alloc (.cells #[.int .i64 r.f0, .int .i64 r.f1, .bool r.f2] 32)).heap[g]? = some (.cells #[.int .i64 (lastF ps)] 3 (0, 0)) := blk_alloc hI _
  have hc := blk_cell hq 0
  have hf : (W.alloc (.cells #[.int .i64 r.f0, .int .i64 r.f1, .bool r.f2] 32)).frozen? ⟨g, 0, none⟩ = false := by simp [World.frozen?, hq]
  have HQ := Aside0.mk hq
  clear hI hq
  go_enter Try.func55, Try.ntmps55
  go_wp2
  (try simp only [Exit.inBlock, Exit.then]); refine bodyPost_end (results_none rfl _ _ _) rfl ?_
  refine ⟨rfl, ?_, ((Below.refl g W).alloc (Nat.le_of_lt (blk_lt HI.out)) _).setCell (p := ⟨g, 0, none⟩) (Nat.le_refl _) _, fun X o hX hd => ?_⟩
  · unfold YInv
    rw [show lastF (ps ++ [r]) = r.f0 by simp [lastF]]
    exact blk_set HQ.out 0 _
  · have hne : X ≠ g := fun e => hd ⟨e, blk_lt hX⟩
    exact (Below.heap_setCell _ ⟨g, 0, none⟩ _ X hne).trans (blk_alloc hX _)
theorem last_one (l : List S32) (h : check13 l = 0) (x : Int) (h0 : 0 ≤ x) (h1 : x < tot13 l) : lastF ([] ++ pieces l 0 x (x + 1)) = (sem l).getD x.toNat 0 := by
  have hg := (check13_zero h).2.1
  have hs := sem_pieces l 0 x (x + 1) (fun r hr => (fit_of (hg r hr)).2.2.1)
  have ht := sem_tot h
  have hp := pieces_pos l 0 x (x + 1)
  rw [List.nil_append]
  have hlt : x.toNat < (sem l).length := by omega
  have hs2 : sem (pieces l 0 x (x + 1)) = [(sem l).getD x.toNat 0] := by
    rw [hs, show (x + 1 - 0).toNat = x.toNat + 1 by omega, show (x - 0).toNat = x.toNat by omega, List.take_succ_eq_append_getElem hlt, List.drop_append, List.drop_of_length_le (by rw [List.length_take]; omega), List.length_take]
    simp [Nat.min_eq_left (Nat.le_of_lt hlt), List.getElem?_eq_getElem hlt]
  generalize pieces l 0 x (x + 1) = ps at *
  match ps, hs2 with
  | [], e => simp [sem] at e
  | r :: q, e =>
    have h1 := hp r (by simp)
    rw [sem_cons] at e
    have hl := congrArg List.length e
    rw [List.length_append, imgs_len] at hl
    simp only [List.length_cons, List.length_nil] at hl
    have hq0 : q = [] := by
      match q with
      | [] => rfl
      | r2 :: q2 => have := hp r2 (by simp); rw [sem_cons, List.length_append, imgs_len] at hl; omega
    subst hq0
    obtain ⟨a, n, b⟩ := r
    dsimp only at hl h1
    obtain rfl : n = 1 := by omega
    rw [imgs_one] at e
    simp only [sem_nil, List.append_nil, List.cons.injEq, and_true] at e
    exact e
def atOf13 (l : List S32) (x : Int) : Int × Int := if check13 l = 0 then (if x < 0 ∨ x ≥ tot13 l then (0, 1) else ((sem l).getD x.toNat 0, 0)) else (0, check13 l)
def iso_At.f (l0 : List S32) (a1 : Int) : Option (Int × Int) := some (atOf13 l0 a1)
set_option maxRecDepth 100000 in
set_option maxHeartbeats 16553600 in
theorem at_main (A0 : Option Addr) (c0 : Nat) (l : List S32) (x : Int) (w : World) (hr : Kd.C k32 w A0 l.length l) (hc : l.length ≤ c0) :
    Calls Try.prog 26 #[.slice A0 l.length c0, .int .i64 x] w fun e w' => e = .returned (.tuple #[.int .i64 (atOf13 l x).1, .int .i64 (atOf13 l x).2]) ∧ Below w.heap.size w w' := by
  have HR := Aside0.mk hr
  have HC := Aside0.mk hc
  clear hr hc
  obtain ⟨k1, hk1⟩ := (icheck_ends l).get
  unfold atOf13
  by_cases h0 : check13 l = 0
  · obtain ⟨hl, hg, ht⟩ := check13_zero h0
    have hfit : ∀ r ∈ l, fitR r := fun r hr => fit_of (hg r hr)
    obtain ⟨k2, hk2⟩ := (ilength_ends l (by omega) (fun r hr => by have := hfit r hr; unfold fitR at this; omega)).get
    have HK2 := Aside0.mk hk2
    rw [h0] at hk1
    have HK1 := Aside0.mk hk1
    have HLL := Aside0.mk hl
    have HFI := Aside0.mk (show ∀ r ∈ l, 0 ≤ r.f0 ∧ r.f0 ≤ 17179869184 ∧ 1 ≤ r.f1 ∧ r.f1 ≤ 17179869184 from hfit)
    have hT := Aside0.mk (show 0 ≤ tot13 l ∧ tot13 l ≤ 17179869184 by have := tot_nonneg h0; omega)
    have HLA := Aside0.mk (last_one l h0 x)
    rw [if_pos h0]
    clear hk1 hk2 h0 hl hg ht hfit
    generalize tot13 l = T at *
    by_cases hx0 : x < 0
    · have hxb : decide (x < 0) = true := by simpa using hx0
      rw [if_pos (.inl hx0)]
      clear hx0
      go_enter Try.func26, Try.ntmps26
      go_wp2_with (go_at_call 14; (with_reducible refine (iso_Check.calls k1 A0 c0 l 0 _ HR.out HC.out HK1.out).mono ?_); rintro e w1 ⟨rfl, hb⟩; have HB1 := Aside0.mk hb; clear hb)
      refine bodyPost_ret (results_tmp2 rfl _ _ _) rfl ?_
      exact ⟨rfl, HB1.out⟩
    · have hxb : decide (x < 0) = false := by simpa using hx0
      by_cases hxT : T ≤ x
      · have hTb : decide (T ≤ x) = true := by simpa using hxT
        rw [if_pos (.inr hxT)]
        clear hx0
        go_enter Try.func26, Try.ntmps26
        go_wp2_with (first | (go_at_call 14; (with_reducible refine (iso_Check.calls k1 A0 c0 l 0 _ HR.out HC.out HK1.out).mono ?_); rintro e w1 ⟨rfl, hb⟩; have HB1 := Aside0.mk hb; have HR1 := Aside0.mk (Kd.C_below HR.out hb); clear hb) | (go_at_call 43; (with_reducible refine (iso_length.calls k2 A0 c0 l T _ HR1.out HC.out HK2.out).mono ?_); rintro e w3 ⟨rfl, hb⟩; have HB3 := Aside0.mk (below_then HB1.out HB1.out.size hb); clear hb))
        refine bodyPost_ret (results_tmp2 rfl _ _ _) rfl ?_
        exact ⟨rfl, HB3.out⟩
      · have hTb : decide (T ≤ x) = false := by simpa using hxT
        have hTb2 : decide (x < T) = true := by simp; omega
        have hxw : wrap64 (x + 1) = x + 1 := by unfold wrap64; have := hT.out; omega
        have hx2 : (0 ≤ x ∧ x ≤ 1099511627776) ∧ 0 ≤ x + 1 ∧ x + 1 ≤ 1099511627776 := by have := hT.out; omega
        have HE := Aside0.mk (HLA.out (by omega) (by omega))
        rw [if_neg (by omega)]
        clear hx0
        go_enter Try.func26, Try.ntmps26
        go_wp2_with (first | (go_at_call 14; (with_reducible refine (iso_Check.calls k1 A0 c0 l 0 _ HR.out HC.out HK1.out).mono ?_); rintro e w1 ⟨rfl, hb⟩; have HB1 := Aside0.mk hb; have HR1 := Aside0.mk (Kd.C_below HR.out hb); clear hb) | (go_at_call 43; (with_reducible refine (iso_length.calls k2 A0 c0 l T _ HR1.out HC.out HK2.out).mono ?_); rintro e w3 ⟨rfl, hb⟩; have HB3 := Aside0.mk (below_then HB1.out HB1.out.size hb); have HR3 := Aside0.mk (Kd.C_below HR1.out hb); clear hb) | (go_at_call 46; (refine (each_at w3.heap.size 65536 (YInv w3.heap.size) (fun _ => True) (YDirty w3.heap.size) YInv.dirty YInv.mono YInv.step A0 c0 l x (x + 1) [] w3 _ HR3.out HC.out (Nat.le_refl _) ((Below.refl _ _).alloc (Nat.le_refl _) _) (World.alloc_heap_new w3 _) (by have := HLL.out; simp; omega) (by have := HLL.out; omega) HFI.out hx2.1 hx2.2 (fun r hr a n h1 h2 h3 => trivial)).mono ?_); rintro e w4 ⟨rfl, hi, hb⟩; have HI4 := Aside0.mk hi; have HB4 := Aside0.mk hb; clear hi hb; have hyc := blk_cell HI4.out 0))
        refine bodyPost_ret (results_tmp2 rfl _ _ _) rfl ?_
        exact ⟨by rw [← HE.out]; rfl, HB3.out.trans (HB4.out.mono HB3.out.size)⟩
  · have HK1 := Aside0.mk hk1
    have hne : (check13 l == 0) = false := by simpa using h0
    have hne1 : (check13 l != 0) = true := by simpa using h0
    rw [if_neg h0]
    clear hk1 h0
    generalize check13 l = q at *
    go_enter Try.func26, Try.ntmps26
    go_wp2_with (go_at_call 14; (with_reducible refine (iso_Check.calls k1 A0 c0 l q _ HR.out HC.out HK1.out).mono ?_); rintro e w1 ⟨rfl, hb⟩; have HB1 := Aside0.mk hb; clear hb)
    refine bodyPost_ret (results_tmp2 rfl _ _ _) rfl ?_
    exact ⟨rfl, HB1.out⟩
theorem iso_At.calls (A0 : Option Addr) (c0 : Nat) (l0 : List (S32)) (a1 : Int) (r1 : Int) (r2 : Int) (w : World) (hr0 : Kd.C k32 w A0 l0.length l0) (hc0 : l0.length ≤ c0) (h : iso_At.f l0 a1 = some (r1, r2)) :
    Calls Try.prog 26 #[.slice A0 l0.length c0, .int .i64 a1] w fun e w' => e = .returned (.tuple #[.int .i64 r1, .int .i64 r2]) ∧ Below w.heap.size w w' := by
  have e : atOf13 l0 a1 = (r1, r2) := Option.some.inj h
  have := at_main A0 c0 l0 a1 w hr0 hc0
  rw [e] at this
  exact this
end Go.Proofs.Ytcnkmdonbpgjiaa.G

namespace Go.Proofs.Ytcnkmdonbpgjiaa.G
open Go.RowKit Go.Proofs.YtcnkmdonbpgjiaaW.PrintWords Go.Proofs.YtcnkmdonbpgjiaaW.PrintLast Go.Proofs.YtcnkmdonbpgjiaaW.PrintMore
attribute [local go_sem] max2_int min2_int max_two min_two max_three min_three max_four min_four   -- for this text's walks alone
set_option linter.unusedVariables false
set_option linter.unusedSimpArgs false

def span_Norm_1.f (a0 : Bool) (a1 : Bool) : Option (Bool) := some a0
set_option maxHeartbeats 8000000 in
set_option maxRecDepth 100000 in
theorem span_Norm_1.calls (a0 : Bool) (a1 : Bool) (r : Bool) (w : World) (h : span_Norm_1.f a0 a1 = some r) :
    Calls Try.prog 67 #[.bool a0, .bool a1] w fun e w' => e = .returned (.bool r) ∧ Drawn0 w w' := by
  have H : (some a0) = some r := h
  clear h
  obtain rfl := Option.some.inj H
  go_enter Try.func67, Try.ntmps67
  go_wp2
  go_ret
  exact ⟨by first | rfl | (simp; done) | (simp [*]; done), by repeat (first | exact Drawn0.refl _ | apply Drawn0.step)⟩

end Go.Proofs.Ytcnkmdonbpgjiaa.G

namespace Go.Proofs.Ytcnkmdonbpgjiaa.G
open Go.RowKit Go.Proofs.YtcnkmdonbpgjiaaW.PrintWords Go.Proofs.YtcnkmdonbpgjiaaW.PrintLast Go.Proofs.YtcnkmdonbpgjiaaW.PrintMore
attribute [local go_sem] max2_int min2_int max_two min_two max_three min_three max_four min_four   -- for this text's walks alone
set_option linter.unusedVariables false
set_option linter.unusedSimpArgs false

def span_sets_Norm.f (k : Nat) (l0 : List (S37)) (l1 : List (S37)) (a2 : Bool) : Option ((List (S37)) × Int) := span_sets.f span_Norm_1.f k l0 l1 a2
theorem span_sets_Norm.mono : ∀ a0 a1 a2 k, LeO (span_sets_Norm.f k a0 a1 a2) (span_sets_Norm.f (k + 1) a0 a1 a2) := span_sets.mono span_Norm_1.f
theorem span_sets_Norm.calls (k : Nat) (A0 : Option Addr) (c0 : Nat) (l0 : List (S37)) (A1 : Option Addr) (c1 : Nat) (l1 : List (S37)) (a2 : Bool) (r1 : List (S37)) (r2 : Int) (w : World) (hr0 : Kd.C k37 w A0 l0.length l0) (hc0 : l0.length ≤ c0) (hr1 : Kd.C k37 w A1 l1.length l1) (hc1 : l1.length ≤ c1) (h : span_sets_Norm.f k l0 l1 a2 = some (r1, r2)) :
  Calls Try.prog 66 #[.slice A0 l0.length c0, .slice A1 l1.length c1, .func (.func 67) #[] #[]] w fun e w' => ∃ v0_ : Value, e = .returned (.tuple #[v0_, .int .i64 r2]) ∧ Kd.R k37 37 w' w.heap.size (fun _ => True) v0_ r1 ∧ Below w.heap.size w w' :=
  span_sets.calls span_Norm_1.f 67 (enters_of Try.func67 (by kernel_rfl) rfl) (fun a0 a1 r w h => span_Norm_1.calls a0 a1 r w h) k A0 c0 l0 A1 c1 l1 a2 r1 r2 w hr0 hc0 hr1 hc1 h
end Go.Proofs.Ytcnkmdonbpgjiaa.G

namespace Go.Proofs.Ytcnkmdonbpgjiaa.G
open Go.RowKit Go.Proofs.YtcnkmdonbpgjiaaW.PrintWords Go.Proofs.YtcnkmdonbpgjiaaW.PrintLast Go.Proofs.YtcnkmdonbpgjiaaW.PrintMore
attribute [local go_sem] max2_int min2_int max_two min_two max_three min_three max_four min_four   -- for this text's walks alone
set_option linter.unusedVariables false
set_option linter.unusedSimpArgs false

def span_Norm.f (k : Nat) (l0 : List (S37)) : Option ((List (S37)) × Int) := (span_sets_Norm.f k l0 ([] : List (S37)) true).bind fun bt59001 => (some (bt59001.1, bt59001.2))
theorem span_Norm.mono : ∀ a0 k, LeO (span_Norm.f k a0) (span_Norm.f (k + 1) a0) := by
  intro a0 k
  unfold span_Norm.f
  repeat' first
      | (with_reducible exact span_sets_Norm.mono _ _ _ _)
      | (with_reducible exact LeO.refl _)
      | (with_reducible exact LeO.none _)
      | (with_reducible refine LeO.ite ?_ ?_)
      | (with_reducible refine LeO.bind ?_ (fun _ => ?_))
      | exact span_sets_Norm.mono _ _ _ _
      | exact LeO.none _
      | refine LeO.ite ?_ ?_
      | refine LeO.bind ?_ (fun _ => ?_)
set_option maxHeartbeats 8000000 in
set_option maxRecDepth 100000 in
theorem span_Norm.calls (k : Nat) (A0 : Option Addr) (c0 : Nat) (l0 : List (S37)) (r1 : List (S37)) (r2 : Int) (w : World) (hr0 : Kd.C k37 w A0 l0.length l0) (hc0 : l0.length ≤ c0) (h : span_Norm.f k l0 = some (r1, r2)) :
    Calls Try.prog 58 #[.slice A0 l0.length c0] w fun e w' => ∃ v0_ : Value, e = .returned (.tuple #[v0_, .int .i64 r2]) ∧ Kd.R k37 37 w' w.heap.size (fun _ => True) v0_ r1 ∧ Below w.heap.size w w' := by
  have HR0 := Aside0.mk hr0
  have HC0 := Aside0.mk hc0
  clear hr0 hc0
  have HB := Aside0.mk (Below.refl w.heap.size w)
  have H : ((span_sets_Norm.f k l0 ([] : List (S37)) true).bind fun bt59001 => (some (bt59001.1, bt59001.2))) = some (r1, r2) := h
  clear h
  replace H := Option.bind_eq_some_iff.mp H
  obtain ⟨⟨t59001, t59002⟩, A20, H⟩ := H
  replace H : (some (t59001, t59002)) = some (r1, r2) := H
  have A2 := Aside0.mk A20
  clear A20
  simp only [Option.some.injEq, Prod.mk.injEq] at H
  obtain ⟨rfl, rfl⟩ := H
  go_enter Try.func58, Try.ntmps58
  go_wp2_with (first | ((with_reducible refine gate_callee (f := 66) rfl ?_); refine goesL_ (some 5) rfl rfl Try.func66 (by kernel_rfl) rfl #[.slice A0 l0.length c0, .slice none 0 0, .func (.func 67) #[] #[]] rfl (by (try simp only [List.map_toArray, List.map_cons, List.map_nil]); first | done | rfl | (simp only [List.length_drop, List.length_take]; rfl)) ?_; (refine (span_sets_Norm.calls k _ _ l0 _ _ ([] : List (S37)) true t59001 t59002 _ ?side1 ?side2 ?side3 ?side4 A2.out).mono ?_); (case side1 => exact HR0.out); (case side2 => exact HC0.out); (case side3 => exact Kd.C_nil _ _); (case side4 => exact Nat.le_refl _); rintro e w3 ⟨v59003, rfl, ho0, hb⟩; refine ⟨_, rfl, ?_⟩; have n0_ := Aside0.mk (Kd.R_lower ho0 (below_size (by repeat (first | exact HB.out | apply below_alloc | apply pw_below_drewN | apply below_drew1)))); have n1_ := Aside0.mk (below_step (by repeat (first | exact HB.out | apply below_alloc | apply pw_below_drewN | apply below_drew1)) hb); clear HB; have HO59004 := n0_; have HB := n1_; clear n0_ n1_; (try clear hb); (try clear hb2); (try clear hk); (try clear hi); (try clear ho0)))
  go_ret2
  exact ⟨_, by first | rfl | (simp [errW_none, errW_some] <;> rfl) | (simp [*, errW_none, errW_some] <;> rfl), by exact HO59004.out, by repeat (first | exact HB.out | apply below_alloc | apply pw_below_drewN | apply below_drew1)⟩

end Go.Proofs.Ytcnkmdonbpgjiaa.G

namespace Go.Proofs.Ytcnkmdonbpgjiaa.G
open Go.RowKit Go.Proofs.YtcnkmdonbpgjiaaW.PrintWords Go.Proofs.YtcnkmdonbpgjiaaW.PrintLast Go.Proofs.YtcnkmdonbpgjiaaW.PrintMore
attribute [local go_sem] max2_int min2_int max_two min_two max_three min_three max_four min_four   -- for this text's walks alone
set_option linter.unusedVariables false
set_option linter.unusedSimpArgs false

def span_Total.l0 : Nat → Int → List (S37) → Int → Int → Option (Int × Int)
 | 0, _, _, _, _ => none
 | k + 1, x5, x14, x15, x16 => if x16 < x15 then (if 0 ≤ x16 then (if x16 < (x14.length : Int) then (span_Total.l0 k (wrap64 (x5 + (wrap64 (((rd_T37 x14 x16).f1) - ((rd_T37 x14 x16).f0))))) x14 x15 (wrap64 (x16 + 1))) else (none)) else (none)) else (some (x5, 0))
def span_Total.f (k : Nat) (l0 : List (S37)) : Option (Int × Int) := (span_Check.f k l0).bind fun t35001 => (if t35001 = 0 then ((span_joined.f l0).bind fun t35002 => (span_Total.l0 k 0 t35002 (t35002.length : Int) 0)) else (some (0, t35001)))
theorem span_Total.mono_l : ∀ k, (∀ y0 y1 y2 y3, LeO (span_Total.l0 k y0 y1 y2 y3) (span_Total.l0 (k + 1) y0 y1 y2 y3))
 | 0 => fun _ _ _ _ r h => by simp [span_Total.l0] at h
 | k + 1 => by
  have ih0 := span_Total.mono_l k
  ·intro y0 y1 y2 y3
   unfold span_Total.l0
   repeat' first
   | (with_reducible exact ih0 _ _ _ _)
   | (with_reducible exact span_Check.mono _ _)
   | (with_reducible exact LeO.refl _)
   | (with_reducible exact LeO.none _)
   | (with_reducible refine LeO.ite ?_ ?_)
   | (with_reducible refine LeO.bind ?_ (fun _ => ?_))
   | exact ih0 _ _ _ _
   | exact span_Check.mono _ _
   | exact LeO.none _
   | refine LeO.ite ?_ ?_
   | refine LeO.bind ?_ (fun _ => ?_)
theorem span_Total.mono : ∀ a0 k, LeO (span_Total.f k a0) (span_Total.f (k + 1) a0) := by
 intro a0 k
 have ih0 := span_Total.mono_l k
 unfold span_Total.f
 repeat' first
   | (with_reducible exact ih0 _ _ _ _)
   | (with_reducible exact span_Check.mono _ _)
   | (with_reducible exact LeO.refl _)
   | (with_reducible exact LeO.none _)
   | (with_reducible refine LeO.ite ?_ ?_)
   | (with_reducible refine LeO.bind ?_ (fun _ => ?_))
   | exact ih0 _ _ _ _
   | exact span_Check.mono _ _
   | exact LeO.none _
   | refine LeO.ite ?_ ?_
   | refine LeO.bind ?_ (fun _ => ?_)
set_option maxHeartbeats 8000000 in
set_option maxRecDepth 100000 in
theorem span_Total.calls (k : Nat) (A0 : Option Addr) (c0 : Nat) (l0 : List (S37)) (r1 : Int) (r2 : Int) (w : World) (hr0 : Kd.C k37 w A0 l0.length l0) (hc0 : l0.length ≤ c0) (h : span_Total.f k l0 = some (r1, r2)) :
  Calls Try.prog 34 #[.slice A0 l0.length c0] w fun e w' => e = .returned (.tuple #[.int .i64 r1, .int .i64 r2]) ∧ Below w.heap.size w w' := by
 have hu37 := Try.underlying37
 have HR0 := Aside0.mk hr0
 have HC0 := Aside0.mk hc0
 clear hr0 hc0
 have HB := Aside0.mk (Below.refl w.heap.size w)
 have H : ((span_Check.f k l0).bind fun t35001 => (if t35001 = 0 then ((span_joined.f l0).bind fun t35002 => (span_Total.l0 k 0 t35002 (t35002.length : Int) 0)) else (some (0, t35001)))) = some (r1, r2) := h
 clear h
 replace H := Option.bind_eq_some_iff.mp H
 obtain ⟨t35001, A20, H⟩ := H
 replace H : (if t35001 = 0 then ((span_joined.f l0).bind fun t35002 => (span_Total.l0 k 0 t35002 (t35002.length : Int) 0)) else (some (0, t35001))) = some (r1, r2) := H
 have A2 := Aside0.mk A20
 clear A20
 by_cases c3 : t35001 = 0
 ·rw [if_pos c3] at H
  have c3b0 : (t35001 == 0) = true := beq_iff_eq.mpr c3
  have c3b1 : (t35001 != 0) = false := bne_eq_false_iff_eq.mpr c3
  clear c3
  replace H := Option.bind_eq_some_iff.mp H
  obtain ⟨t35002, A40, H⟩ := H
  replace H : (span_Total.l0 k 0 t35002 (t35002.length : Int) 0) = some (r1, r2) := H
  have A4 := Aside0.mk A40
  clear A40
  have H' := Aside0.mk H
  clear H
  go_enter Try.func34, Try.ntmps34
  go_wp2_with (first | ((with_reducible refine gate_callee (f := 60) rfl ?_); refine goesL_ (some 9) rfl rfl Try.func60 (by kernel_rfl) rfl #[.slice A0 l0.length c0] rfl (by (try simp only [List.map_toArray, List.map_cons, List.map_nil]); first | done | rfl | (simp only [List.length_drop, List.length_take]; rfl)) ?_; (with_reducible refine (span_Check.calls k _ _ l0 t35001 _ ?side1 ?side2 A2.out).mono ?_); (case side1 => exact HR0.out); (case side2 => exact HC0.out); rintro e w5 ⟨rfl, hb⟩; refine ⟨_, rfl, ?_⟩; have n0_ := Aside0.mk (below_step (by repeat (first | exact HB.out | apply below_alloc | apply pw_below_drewN | apply below_drew1)) hb); clear HB; have HB := n0_; clear n0_; (try clear hb); (try clear hb2); (try clear hk); (try clear hi)) | ((with_reducible refine gate_callee (f := 61) rfl ?_); refine goesL_ (some 14) rfl rfl Try.func61 (by kernel_rfl) rfl #[.slice A0 l0.length c0] rfl (by (try simp only [List.map_toArray, List.map_cons, List.map_nil]); first | done | rfl | (simp only [List.length_drop, List.length_take]; rfl)) ?_; (with_reducible refine (span_joined.calls _ _ l0 t35002 _ ?side1 ?side2 A4.out).mono ?_); (case side1 => exact (Kd.C_below HR0.out HB.out)); (case side2 => exact HC0.out); rintro e w6 ⟨v35003, rfl, ho0, hb⟩; refine ⟨_, rfl, ?_⟩; have n0_ := Aside0.mk (Kd.R_lower ho0 (below_size (by repeat (first | exact HB.out | apply below_alloc | apply pw_below_drewN | apply below_drew1)))); have n1_ := Aside0.mk (below_step (by repeat (first | exact HB.out | apply below_alloc | apply pw_below_drewN | apply below_drew1)) hb); clear HB; have HO35004 := n0_; have HB := n1_; clear n0_ n1_; (try clear hb); (try clear hb2); (try clear hk); (try clear hi); (try clear ho0); obtain ⟨Ao7, co7, eo7⟩ := Kd.R_slice HO35004.out; subst eo7))
  go_loopg [5, 16] k (fun kq v5 v16 w' => ∃ (x5_1 : Int) (x16_1 : Int), v5 = .int .i64 x5_1 ∧ v16 = .int .i64 x16_1 ∧ Aside0 (span_Total.l0 kq x5_1 t35002 (t35002.length : Int) x16_1 = some (r1, r2)) ∧ Aside0 (kq ≤ k) ∧ Aside0 (Kd.R k37 37 w' w.heap.size (fun _ => True) (.slice Ao7 t35002.length co7) t35002) ∧ Aside0 (Below w.heap.size w w'))
  case atStart => exact ⟨(0), (0), (by first | rfl | (simp; done) | (simp [*]; done)), (by first | rfl | (simp; done) | (simp [*]; done)), H', ⟨Nat.le_refl _⟩, ⟨HO35004.out⟩, ⟨by repeat (first | exact HB.out | apply below_alloc | apply pw_below_drewN | apply below_drew1)⟩⟩
  case round =>
   clear H'
   try clear p2
   try clear c3
   try clear c3b0
   try clear c3b1
   try clear c6
   obtain ⟨x5_1, x16_1, rfl, rfl, HA, HK1, HO_14, HB⟩ := hrel
   cases gk with
   | zero => exact absurd HA.out (by simp [span_Total.l0])
   | succ k1 =>
    have H := HA.out
    clear HA
    simp only [span_Total.l0] at H
    by_cases c8 : x16_1 < (t35002.length : Int)
    ·rw [if_pos c8] at H
     have c8b0 : decide (x16_1 < (t35002.length : Int)) = true := decide_eq_true c8
     clear c8
     by_cases c9 : 0 ≤ x16_1
     ·rw [if_pos c9] at H
      have c9b0 : decide (0 ≤ x16_1) = true := decide_eq_true c9
      clear c9
      by_cases c10 : x16_1 < (t35002.length : Int)
      ·rw [if_pos c10] at H
       have c10b0 : decide (x16_1 < (t35002.length : Int)) = true := decide_eq_true c10
       clear c10
       have H' := Aside0.mk H
       clear H
       have p35005 : 0 ≤ (x16_1 : Int) := of_decide_eq_true (by assumption)
       have q35005 : x16_1 < (t35002.length : Int) := of_decide_eq_true (by assumption)
       obtain ⟨ad35005, e35005, hx35005_0, hx35005_1⟩ := at_T37 (Kd.R_reads' HO_14.out).2.2 x16_1 p35005 q35005
       cases e35005
       replace p35005 := eq_true p35005
       replace q35005 := eq_true q35005
       go_wp2_with (first | ((with_reducible refine gate_dst (N := 7) rfl ?_); refine box_event ?hg (N := 7) ?hd (cs := #[.int .i64 0, .int .i64 0]) (t := 37) ?hr ?_; (case hd => rfl); (case hg => rfl); (case hr => first | (go_simp; done) | (go_simp; rfl)); intro gb35006 hg w11 hbox hb; have n0_ := Aside0.mk (Kd.R_below (Kd.R_elderB (HO_14.out) gb35006 (Nat.le_of_eq hg.symm)) hb); have n1_ := Aside0.mk (below_step (by repeat (first | exact HB.out | apply below_alloc | apply pw_below_drewN | apply below_drew1)) hb); have n2_ := Aside0.mk (hbox); have n3_ := Aside0.mk ((by rw [hg]; exact (below_size (by repeat (first | exact HB.out | apply below_alloc | apply pw_below_drewN | apply below_drew1))) : w.heap.size ≤ gb35006)); have n4_ := Aside0.mk ((by rw [hg]; exact (below_size (by repeat (first | exact HB.out | apply below_alloc | apply pw_below_drewN | apply below_drew1))) : w.heap.size ≤ gb35006)); clear HO_14; clear HB; have HO_14 := n0_; have HB := n1_; have BK35006 := n2_; have GW35006 := n3_; have GE35006 := n4_; clear n0_ n1_ n2_ n3_ n4_; clear hb hbox hg; have hcz12_0 : w11.cell? ⟨gb35006, 0, none⟩ = some (.int .i64 0) := (blk_cell BK35006.out 0).trans rfl; have hcz12_1 : w11.cell? ⟨gb35006, 1, none⟩ = some (.int .i64 0) := (blk_cell BK35006.out 1).trans rfl; have hfz12_0 := blk_frozen BK35006.out 0; have hfz12_1 := blk_frozen BK35006.out 1))
       go_roundg k1
       case measure => have := HK1.out; omega
       case rel => exact ⟨(wrap64 (x5_1 + (wrap64 (((rd_T37 t35002 x16_1).f1) - ((rd_T37 t35002 x16_1).f0))))), (wrap64 (x16_1 + 1)), (by first | rfl | (simp; done) | (simp [*]; done)), (by first | rfl | (simp; done) | (simp [*]; done)), H', ⟨by have := HK1.out; omega⟩, ⟨by exact Kd.R_mono (Kd.R_far (p := ⟨gb35006, 1, none⟩) (Kd.R_far (p := ⟨gb35006, 0, none⟩) (Kd.R_mono HO_14.out (fun k_ hk => (⟨hk, hk.2⟩ : _ ∧ k_ ≠ gb35006))) (fun _ hk => hk.2) (.int .i64 ((rd_T37 t35002 x16_1).f0))) (fun _ hk => hk.2) (.int .i64 ((rd_T37 t35002 x16_1).f1))) (fun _ hk => trivial)⟩, ⟨by repeat (first | exact HB.out | apply below_alloc | apply pw_below_drewN | apply below_drew1 | refine below_set ?_ GE35006.out)⟩⟩
      ·rw [if_neg c10] at H
       exact absurd H (by simp)
     ·rw [if_neg c9] at H
      exact absurd H (by simp)
    ·rw [if_neg c8] at H
     have c8b0 : decide (x16_1 < (t35002.length : Int)) = false := decide_eq_false c8
     clear c8
     simp only [Option.some.injEq, Prod.mk.injEq] at H
     obtain ⟨rfl, rfl⟩ := H
     go_wp2
     go_ret2
     exact ⟨by first | rfl | (simp [errW_none, errW_some] <;> rfl) | (simp [*, errW_none, errW_some] <;> rfl), by repeat (first | exact HB.out | apply below_alloc | apply pw_below_drewN | apply below_drew1)⟩
 ·rw [if_neg c3] at H
  have c3b0 : (t35001 == 0) = false := beq_eq_false_iff_ne.mpr c3
  have c3b1 : (t35001 != 0) = true := bne_iff_ne.mpr c3
  simp only [Option.some.injEq, Prod.mk.injEq] at H
  obtain ⟨rfl, rfl⟩ := H
  go_enter Try.func34, Try.ntmps34
  go_wp2_with (first | ((with_reducible refine gate_callee (f := 60) rfl ?_); refine goesL_ (some 9) rfl rfl Try.func60 (by kernel_rfl) rfl #[.slice A0 l0.length c0] rfl (by (try simp only [List.map_toArray, List.map_cons, List.map_nil]); first | done | rfl | (simp only [List.length_drop, List.length_take]; rfl)) ?_; (with_reducible refine (span_Check.calls k _ _ l0 t35001 _ ?side1 ?side2 A2.out).mono ?_); (case side1 => exact HR0.out); (case side2 => exact HC0.out); rintro e w13 ⟨rfl, hb⟩; refine ⟨_, rfl, ?_⟩; have n0_ := Aside0.mk (below_step (by repeat (first | exact HB.out | apply below_alloc | apply pw_below_drewN | apply below_drew1)) hb); clear HB; have HB := n0_; clear n0_; (try clear hb); (try clear hb2); (try clear hk); (try clear hi)))
  go_ret2
  exact ⟨by first | rfl | (simp [errW_none, errW_some] <;> rfl) | (simp [*, errW_none, errW_some] <;> rfl), by repeat (first | exact HB.out | apply below_alloc | apply pw_below_drewN | apply below_drew1)⟩

end Go.Proofs.Ytcnkmdonbpgjiaa.G

namespace Go.Proofs.Ytcnkmdonbpgjiaa.G
open Go.RowKit Go.Proofs.YtcnkmdonbpgjiaaW.PrintWords Go.Proofs.YtcnkmdonbpgjiaaW.PrintLast Go.Proofs.YtcnkmdonbpgjiaaW.PrintMore
set_option linter.unusedVariables false
set_option linter.unusedSimpArgs false
theorem rd36 (l : List S37) (i : Nat) (h : i < l.length) : rd_T37 l i = l[i] := by simp [rd_T37, List.getD_eq_getElem?_getD, List.getElem?_eq_getElem h]
theorem drop36 (l : List S37) (i : Nat) (h : i < l.length) : l.drop i = rd_T37 l i :: l.drop (i + 1) := by rw [rd36 l i h]; exact List.drop_eq_getElem_cons h
theorem dropI (l : List Int) (i : Nat) (h : i < l.length) : l.drop i = rd l i :: l.drop (i + 1) := by rw [rdI l i h]; exact List.drop_eq_getElem_cons h

def badS (s : S37) : Prop := s.f0 < 0 ∨ s.f0 > s.f1 ∨ s.f1 > 17179869184
instance (s : S37) : Decidable (badS s) := by unfold badS; infer_instance
def check04 (l : List S37) : Int := if l.length > 256 then 8 else if ∃ s ∈ l, badS s then 1 else 0
theorem check04_zero {l : List S37} (h : check04 l = 0) : l.length ≤ 256 ∧ ∀ s ∈ l, ¬ badS s := by
  unfold check04 at h
  split at h
  · cases h
  · split at h
    · cases h
    · rename_i h1 h2; exact ⟨by omega, fun s hs k => h2 ⟨s, hs, k⟩⟩
def bothOf (a b : List S37) (w : Int) : List S37 × Int := if check04 a = 0 then (if check04 b = 0 then (if (combOf a b w).length > 256 then ([], 8) else (combOf a b w, 0)) else ([], check04 b)) else ([], check04 a)
theorem getLast_rd (out : List S37) (h : out.length ≠ 0) : out.getLast? = some (rd_T37 out ((out.length - 1 : Nat) : Int)) := by
  rw [List.getLast?_eq_getElem?, rd36 _ _ (by omega), List.getElem?_eq_getElem (by omega)]
theorem dropLast_set (out : List S37) (h : out.length ≠ 0) (y : S37) : out.set (out.length - 1) y = out.dropLast ++ [y] := by
  obtain ⟨d, x, rfl⟩ : ∃ d x, out = d ++ [x] := ⟨out.dropLast, out.getLast (fun e => h (by rw [e]; rfl)), (List.dropLast_concat_getLast _).symm⟩
  rw [List.dropLast_concat, List.length_append]
  simp
end Go.Proofs.Ytcnkmdonbpgjiaa.G

namespace Go.Proofs.Ytcnkmdonbpgjiaa.G
open Go.RowKit Go.Proofs.YtcnkmdonbpgjiaaW.PrintWords Go.Proofs.YtcnkmdonbpgjiaaW.PrintLast Go.Proofs.YtcnkmdonbpgjiaaW.PrintMore
set_option linter.unusedVariables false
set_option linter.unusedSimpArgs false
theorem scheck_l0 (l : List S37) (hl : l.length ≤ 256) : ∀ (d i : Nat), l.length - i = d → i ≤ l.length → Ends (fun k => span_Check.l0 k l (l.length : Int) (i : Int)) (if ∃ s ∈ l.drop i, badS s then 1 else 0) := by
  intro d
  induction d with
  | zero =>
    intro i hd hi
    refine Ends.succ ?_
    simp only [span_Check.l0]
    refine Ends.neg (by omega) ?_
    rw [List.drop_of_length_le (by omega), if_neg (by simp)]
    exact Ends.ret _
  | succ d ih =>
    intro i hd hi
    refine Ends.succ ?_
    simp only [span_Check.l0, wrap_nat i (by omega)]
    refine Ends.pos (by omega) (Ends.pos (by omega) (Ends.pos (by omega) ?_))
    rw [drop36 l i (by omega)]
    generalize rd_T37 l (i : Int) = x
    by_cases h : badS x
    · rw [if_pos ⟨x, by simp, h⟩]
      unfold badS at h
      by_cases h1 : x.f0 < 0
      · exact Ends.pos h1 (Ends.ret _)
      · refine Ends.neg h1 ?_
        by_cases h2 : x.f0 > x.f1
        · exact Ends.pos h2 (Ends.ret _)
        · exact Ends.neg h2 (Ends.pos (by omega) (Ends.ret _))
    · have e : (∃ s ∈ x :: l.drop (i + 1), badS s) ↔ ∃ s ∈ l.drop (i + 1), badS s := by simp [h]
      simp only [e]
      unfold badS at h
      exact Ends.neg (by omega) (Ends.neg (by omega) (Ends.neg (by omega) (ih (i + 1) (by omega) (by omega))))
theorem scheck_ends (l : List S37) : Ends (fun k => span_Check.f k l) (check04 l) := by
  unfold span_Check.f check04
  by_cases h : l.length > 256
  · rw [if_pos h]
    exact Ends.pos (by omega) (Ends.ret _)
  · rw [if_neg h]
    exact Ends.neg (by omega) (scheck_l0 l (by omega) _ 0 rfl (by omega))
def idx (a : List S37) (x : Int) : Nat := (a.takeWhile fun s => decide (s.f1 ≤ x)).length
theorem idx_le (a : List S37) (x : Int) : idx a x ≤ a.length := by unfold idx; exact (List.takeWhile_sublist _).length_le
theorem idx_cons (s : S37) (a : List S37) (x : Int) : idx (s :: a) x = if s.f1 ≤ x then idx a x + 1 else 0 := by
  unfold idx
  by_cases h : s.f1 ≤ x <;> simp [List.takeWhile_cons, h]
theorem idx_lt : ∀ (a : List S37) (x : Int) (i : Nat), i < idx a x → (rd_T37 a (i : Int)).f1 ≤ x
  | [], x, i, h => by simp [idx] at h
  | s :: a, x, i, h => by
    rw [idx_cons] at h
    split at h
    · cases i with
      | zero => simpa [rd_T37]
      | succ i => have := idx_lt a x i (by omega); simpa [rd_T37] using this
    · omega
theorem idx_at : ∀ (a : List S37) (x : Int), idx a x < a.length → x < (rd_T37 a (idx a x : Int)).f1
  | [], x, h => by simp at h
  | s :: a, x, h => by
    rw [idx_cons] at h ⊢
    split at h
    · rename_i h1
      rw [if_pos h1]
      have := idx_at a x (by simp at h; omega)
      simpa [rd_T37] using this
    · rename_i h1
      rw [if_neg h1]
      simp [rd_T37]; omega
theorem idx_mono (x y : Int) (h : x ≤ y) : ∀ (a : List S37), idx a x ≤ idx a y
  | [] => Nat.le_refl _
  | s :: a => by
    rw [idx_cons, idx_cons]
    have := idx_mono x y h a
    split
    · rw [if_pos (by omega)]; omega
    · omega
theorem hasOf_cons (s : S37) (a : List S37) (x : Int) : hasOf (s :: a) x = (decide (s.f0 ≤ x ∧ x < s.f1) || hasOf a x) := rfl
theorem sep_has {a : List S37} {e x : Int} (h : sep e a) (hx : x ≤ e) : hasOf a x = false := by
  cases hh : hasOf a x with
  | false => rfl
  | true => have := sep_mem h ((hasOf_iff a x).1 hh); omega
theorem has_idx : ∀ (a : List S37) (e x : Int), sep e a → hasOf a x = (decide (idx a x < a.length) && decide ((rd_T37 a (idx a x : Int)).f0 ≤ x))
  | [], e, x, _ => by simp [hasOf]
  | s :: a, e, x, h => by
    rw [hasOf_cons, idx_cons]
    by_cases h1 : s.f1 ≤ x
    · rw [if_pos h1, has_idx a s.f1 x h.2.2]
      have e1 : decide (s.f0 ≤ x ∧ x < s.f1) = false := by simp; omega
      rw [e1]
      simp [rd_T37]
    · rw [if_neg h1, sep_has h.2.2 (by omega)]
      have e1 : (s.f0 ≤ x ∧ x < s.f1) ↔ s.f0 ≤ x := by omega
      simp [e1, rd_T37]
section
variable (kf : Bool → Bool → Option Bool) (kp : Bool → Bool → Bool) (hk : ∀ p q, kf p q = some (kp p q))
variable (a b : List S37) (E : List Int)
theorem sets_l2 (out : List S37) (j x n : Int) (r : List S37 × Int) (ha : a.length < 1000000) (h : Ends (fun k => span_sets.j3 kf k a b E out (idx a x) j n x E (E.length : Int) n) r) :
    ∀ (d i : Nat), idx a x - i = d → i ≤ idx a x → Ends (fun k => span_sets.l2 kf k a b E out (i : Int) j n x E (E.length : Int) n) r := by
  have hle := idx_le a x
  intro d
  induction d with
  | zero =>
    intro i hd hi
    obtain rfl : i = idx a x := by omega
    refine Ends.succ ?_
    simp only [span_sets.l2, wrap_nat (idx a x) (by omega)]
    by_cases h1 : idx a x < a.length
    · exact Ends.pos (by omega) (Ends.pos (by omega) (Ends.neg (by have := idx_at a x h1; omega) h))
    · exact Ends.neg (by omega) h
  | succ d ih =>
    intro i hd hi
    refine Ends.succ ?_
    simp only [span_sets.l2, wrap_nat i (by omega)]
    exact Ends.pos (by omega) (Ends.pos (by omega) (Ends.pos (idx_lt a x i (by omega)) (ih (i + 1) (by omega) (by omega))))
theorem sets_l3 (out : List S37) (i x n : Int) (r : List S37 × Int) (hb : b.length < 1000000) (h : Ends (fun k => span_sets.j5 kf k a b E out i (idx b x) n x E (E.length : Int) n) r) :
    ∀ (d j : Nat), idx b x - j = d → j ≤ idx b x → Ends (fun k => span_sets.l3 kf k a b E out i (j : Int) n x E (E.length : Int) n) r := by
  have hle := idx_le b x
  intro d
  induction d with
  | zero =>
    intro j hd hj
    obtain rfl : j = idx b x := by omega
    refine Ends.succ ?_
    simp only [span_sets.l3, wrap_nat (idx b x) (by omega)]
    by_cases h1 : idx b x < b.length
    · exact Ends.pos (by omega) (Ends.pos (by omega) (Ends.neg (by have := idx_at b x h1; omega) h))
    · exact Ends.neg (by omega) h
  | succ d ih =>
    intro j hd hj
    refine Ends.succ ?_
    simp only [span_sets.l3, wrap_nat j (by omega)]
    exact Ends.pos (by omega) (Ends.pos (by omega) (Ends.pos (idx_lt b x j (by omega)) (ih (j + 1) (by omega) (by omega))))
def setsFin (o : List S37) : List S37 × Int := if (joinOf o).length > 256 then ([], 8) else (joinOf o, 0)
include hk in
theorem sets_j6 (ea eb : Int) (sa : sep ea a) (sb : sep eb b) (out : List S37) (n : Nat) (x : Int) (hn : n + 1 < E.length) (hE : E.length < 1000000) (ho : out.length < 1000000) (r : List S37 × Int)
    (h : Ends (fun k => span_sets.l1 kf k a b E (out ++ if kp (hasOf a x) (hasOf b x) = true then [⟨x, rd E ((n + 1 : Nat) : Int)⟩] else []) (idx a x) (idx b x) E (E.length : Int) ((n + 1 : Nat) : Int)) r) :
    Ends (fun k => span_sets.j6 kf k a b E out (idx a x) (idx b x) (n : Int) x E (E.length : Int) (n : Int) false) r := by
  refine Ends.succ ?_
  simp only [span_sets.j6, wrap_nat n (by omega), hk, Option.bind_some]
  have ga := has_idx a ea x sa
  have gb := has_idx b eb x sb
  have fin : ∀ c : Bool, c = kp (hasOf a x) (hasOf b x) → Ends (fun k => if c = true then (if 0 ≤ ((n + 1 : Nat) : Int) then (if ((n + 1 : Nat) : Int) < (E.length : Int) then (if out.length < 8796093022208 then (span_sets.l1 kf k a b E (out ++ [(⟨x, rd E ((n + 1 : Nat) : Int)⟩ : S37)]) (idx a x) (idx b x) E (E.length : Int) ((n + 1 : Nat) : Int)) else none) else none) else none) else (span_sets.l1 kf k a b E out (idx a x) (idx b x) E (E.length : Int) ((n + 1 : Nat) : Int))) r := by
    intro c hc
    subst hc
    cases hkp : kp (hasOf a x) (hasOf b x) with
    | true => rw [hkp] at h; exact Ends.pos rfl (Ends.pos (by omega) (Ends.pos (by omega) (Ends.pos (by omega) (by simpa using h))))
    | false => rw [hkp] at h; exact Ends.neg (by simp) (by simpa using h)
  refine Ends.neg (by simp) ?_
  by_cases h1 : idx a x < a.length
  · have ea1 : hasOf a x = decide ((rd_T37 a (idx a x : Int)).f0 ≤ x) := by rw [ga]; simp [h1]
    refine Ends.pos (by omega) (Ends.pos (by omega) ?_)
    by_cases h2 : idx b x < b.length
    · have eb1 : hasOf b x = decide ((rd_T37 b (idx b x : Int)).f0 ≤ x) := by rw [gb]; simp [h2]
      exact Ends.pos (by omega) (Ends.pos (by omega) (fin _ (by rw [ea1, eb1])))
    · have eb1 : hasOf b x = false := by rw [gb]; simp [h2]
      exact Ends.neg (by omega) (fin _ (by rw [ea1, eb1]))
  · have ea1 : hasOf a x = false := by rw [ga]; simp [h1]
    refine Ends.neg (by omega) ?_
    by_cases h2 : idx b x < b.length
    · have eb1 : hasOf b x = decide ((rd_T37 b (idx b x : Int)).f0 ≤ x) := by rw [gb]; simp [h2]
      exact Ends.pos (by omega) (Ends.pos (by omega) (fin _ (by rw [ea1, eb1])))
    · have eb1 : hasOf b x = false := by rw [gb]; simp [h2]
      exact Ends.neg (by omega) (fin _ (by rw [ea1, eb1]))
theorem sweep_in : ∀ (L : List Int), L.Pairwise (· ≤ ·) → ∀ s ∈ sweep kp a b L, s.f0 ∈ L ∧ s.f1 ∈ L ∧ s.f0 ≤ s.f1
  | [], _, s, h => by simp [sweep] at h
  | [c], _, s, h => by simp [sweep] at h
  | c :: d :: r, hp, s, h => by
    rw [List.pairwise_cons] at hp
    rw [sweep, List.mem_append] at h
    rcases h with h | h
    · split at h
      · obtain rfl := List.mem_singleton.1 h
        exact ⟨by simp, by simp, hp.1 d (by simp)⟩
      · simp at h
    · obtain ⟨h1, h2, h3⟩ := sweep_in (d :: r) hp.2 s h
      exact ⟨List.mem_cons_of_mem _ h1, List.mem_cons_of_mem _ h2, h3⟩
theorem sorted_rd (hE : E.Pairwise (· ≤ ·)) (n : Nat) (h : n + 1 < E.length) : rd E (n : Int) ≤ rd E ((n + 1 : Nat) : Int) := by
  rw [rdI E n (by omega), rdI E (n + 1) h]
  exact List.pairwise_iff_getElem.1 hE n (n + 1) (by omega) h (by omega)
include hk in
theorem sets_l1 (ea eb : Int) (sa : sep ea a) (sb : sep eb b) (ha : a.length < 1000000) (hb : b.length < 1000000) (hE : E.length < 400000) (hs : E.Pairwise (· ≤ ·)) : ∀ (d n i j : Nat) (out : List S37), E.length - n = d → n ≤ E.length → (n < E.length → i ≤ idx a (rd E (n : Int)) ∧ j ≤ idx b (rd E (n : Int))) → out.length + d < 400000 → okSpans (out ++ sweep kp a b (E.drop n)) = true →
    Ends (fun k => span_sets.l1 kf k a b E out (i : Int) (j : Int) E (E.length : Int) (n : Int)) (setsFin (out ++ sweep kp a b (E.drop n))) := by
  intro d
  induction d with
  | zero =>
    intro n i j out hd hn hij ho hok
    refine Ends.succ ?_
    simp only [span_sets.l1]
    refine Ends.neg (by omega) ?_
    rw [List.drop_of_length_le (by omega)] at hok ⊢
    rw [show sweep kp a b ([] : List Int) = [] from rfl, List.append_nil] at hok ⊢
    have e : span_joined.f out = some (joinOf out) := by unfold span_joined.f; rw [if_pos hok]
    simp only [e, Option.bind_some]
    unfold setsFin
    by_cases h : (joinOf out).length > 256
    · rw [if_pos h]; exact Ends.pos (by omega) (Ends.ret _)
    · rw [if_neg h]; exact Ends.neg (by omega) (Ends.ret _)
  | succ d ih =>
    intro n i j out hd hn hij ho hok
    refine Ends.succ ?_
    simp only [span_sets.l1, wrap_nat n (by omega)]
    refine Ends.pos (by omega) (Ends.pos (by omega) (Ends.pos (by omega) ?_))
    obtain ⟨hi, hj⟩ := hij (by omega)
    refine sets_l2 kf a b E out j _ n _ ha ?_ _ i rfl hi
    refine Ends.succ ?_
    simp only [span_sets.j3]
    refine sets_l3 kf a b E out _ _ n _ hb ?_ _ j rfl hj
    refine Ends.succ ?_
    simp only [span_sets.j5, wrap_nat n (by omega)]
    have next : ∀ (out' : List S37), out'.length + d < 400000 → out' ++ sweep kp a b (E.drop (n + 1)) = out ++ sweep kp a b (E.drop n) → Ends (fun k => span_sets.l1 kf k a b E out' (idx a (rd E (n : Int)) : Int) (idx b (rd E (n : Int)) : Int) E (E.length : Int) ((n + 1 : Nat) : Int)) (setsFin (out ++ sweep kp a b (E.drop n))) := by
      intro out' ho' he
      rw [← he]
      refine ih (n + 1) _ _ out' (by omega) (by omega) (fun h => ?_) ho' (by rw [he]; exact hok)
      exact ⟨idx_mono _ _ (sorted_rd E hs n h) a, idx_mono _ _ (sorted_rd E hs n h) b⟩
    by_cases hl : n + 1 = E.length
    · refine Ends.pos (by omega) (Ends.succ ?_)
      simp only [span_sets.j6, wrap_nat n (by omega)]
      refine Ends.pos trivial (next out (by omega) ?_)
      rw [dropI E n (by omega), List.drop_of_length_le (by omega)]
      simp [sweep]
    · refine Ends.neg (by omega) (Ends.pos (by omega) (Ends.pos (by omega) ?_))
      have e1 := dropI E n (by omega)
      have e2 := dropI E (n + 1) (by omega)
      by_cases hx : rd E ((n + 1 : Nat) : Int) = rd E (n : Int)
      · have hb : (rd E ((n + 1 : Nat) : Int) == rd E (n : Int)) = true := by simpa using hx
        simp only [hb]
        refine Ends.succ ?_
        simp only [span_sets.j6, wrap_nat n (by omega)]
        refine Ends.pos trivial (next out (by omega) ?_)
        rw [e1, e2, sweep, ← e2, hx]
        simp
      · have hb : (rd E ((n + 1 : Nat) : Int) == rd E (n : Int)) = false := by simpa using hx
        simp only [hb]
        refine sets_j6 kf kp hk a b E ea eb sa sb out n _ (by omega) (by omega) (by omega) _ (next _ ?_ ?_)
        · rw [List.length_append]; split <;> simp <;> omega
        · rw [e1, e2, sweep, ← e2, List.append_assoc]
          congr 2
          have hx' : rd E (n : Int) ≠ rd E ((n + 1 : Nat) : Int) := fun h => hx h.symm
          simp only [hx', ne_eq, not_false_eq_true, true_and]
include hk in
theorem sets_l0 (ea eb : Int) (sa : sep ea a) (sb : sep eb b) (ha : a.length ≤ 100000) (hb : b.length ≤ 100000) (c : List S37) (hc : c.length ≤ 200000) (hv : ∀ s ∈ c, (0 ≤ s.f0 ∧ s.f0 ≤ 17179869184) ∧ 0 ≤ s.f1 ∧ s.f1 ≤ 17179869184) (he : c.length ≤ 10000) : ∀ (d i : Nat) (o : List Int), c.length - i = d → i ≤ c.length → o.length + 2 * d ≤ 100000 → (∀ x ∈ o, 0 ≤ x ∧ x ≤ 17179869184) →
    Ends (fun k => span_sets.l0 kf k a b o c (c.length : Int) (i : Int)) (setsFin (sweep kp a b (sortI (o ++ (c.drop i).flatMap fun s => [s.f0, s.f1])))) := by
  intro d
  induction d with
  | zero =>
    intro i o hd hi ho hv1
    refine Ends.succ ?_
    simp only [span_sets.l0]
    refine Ends.neg (by omega) ?_
    rw [List.drop_of_length_le (by omega)]
    simp only [List.flatMap_nil, List.append_nil]
    have e : slices_Sort_int_int.f o = some (sortI o) := by unfold slices_Sort_int_int.f; rw [if_pos (by omega)]
    have hl : (sortI o).length = o.length := List.length_mergeSort _
    have hs : (sortI o).Pairwise (· ≤ ·) := by
      have := List.pairwise_mergeSort (le := fun a b : Int => decide (a ≤ b)) (by intro a b c h1 h2; simp at *; omega) (by intro a b; simp; omega) o
      exact this.imp (by intro a b h; simpa using h)
    simp only [e, Option.bind_some]
    rw [show (o.length : Int) = ((sortI o).length : Int) by rw [hl]]
    refine (sets_l1 kf kp hk a b (sortI o) ea eb sa sb (by omega) (by omega) (by omega) hs _ 0 0 0 [] rfl (by omega) (fun _ => ⟨Nat.zero_le _, Nat.zero_le _⟩) (by simp; omega) ?_).congr (by simp)
    rw [okSpans_iff]
    refine ⟨by have := sweep_len kp a b (sortI o); simp; omega, fun s h => ?_⟩
    have hm : ∀ x, x ∈ sortI o → x ∈ o := fun x hx => List.mem_mergeSort.1 hx
    obtain ⟨h1, h2, h3⟩ := sweep_in kp a b (sortI o) hs s (by simpa using h)
    have := hv1 _ (hm _ h1); have := hv1 _ (hm _ h2)
    exact ⟨by omega, h3, by omega⟩
  | succ d ih =>
    intro i o hd hi ho hv1
    refine Ends.succ ?_
    simp only [span_sets.l0, wrap_nat i (by omega), Option.bind_some]
    refine Ends.pos (by omega) (Ends.pos (by omega) (Ends.pos (by omega) (Ends.pos (by simp; omega) ?_)))
    rw [drop36 c i (by omega)]
    have hx := hv (rd_T37 c (i : Int)) (by rw [rd36 c i (by omega)]; exact List.getElem_mem _)
    refine (ih (i + 1) (o ++ [(rd_T37 c (i : Int)).f0, (rd_T37 c (i : Int)).f1]) (by omega) (by omega) (by simp; omega) ?_).congr (by simp)
    intro x h
    rcases List.mem_append.1 h with h | h
    · exact hv1 x h
    · simp at h; rcases h with rfl | rfl
      · exact hx.1
      · exact hx.2
theorem sweep_congr (kq : Bool → Bool → Bool) (h : ∀ x, kp (hasOf a x) (hasOf b x) = kq (hasOf a x) (hasOf b x)) : ∀ (L : List Int), sweep kp a b L = sweep kq a b L
  | [] => rfl
  | [c] => rfl
  | c :: d :: r => by rw [sweep, sweep, h, sweep_congr kq h (d :: r)]
theorem sortI_sorted (o : List Int) : (sortI o).Pairwise (· ≤ ·) := by
  have := List.pairwise_mergeSort (le := fun a b : Int => decide (a ≤ b)) (by intro a b c h1 h2; simp at *; omega) (by intro a b; simp; omega) o
  exact this.imp (by intro a b h; simpa using h)
theorem good04 {l : List S37} (h : check04 l = 0) : l.length ≤ 256 ∧ ∀ s ∈ l, 0 ≤ s.f0 ∧ s.f0 ≤ s.f1 ∧ s.f1 ≤ 17179869184 := by
  obtain ⟨h1, h2⟩ := check04_zero h
  exact ⟨h1, fun s hs => by have := h2 s hs; unfold badS at this; omega⟩
theorem okSpans_good {l : List S37} (h : check04 l = 0) : okSpans l = true := by
  obtain ⟨h1, h2⟩ := good04 h
  exact (okSpans_iff l).2 ⟨by omega, h2⟩
include hk in
theorem sets_ends (l0 l1 : List S37) (c : Bool) (w : Int) (hw : w = 0 ∨ w = 1 ∨ w = 2) (hkw : ∀ x, kp (hasOf (joinOf l0) x) (hasOf (joinOf l1) x) = wayOf w (hasOf (joinOf l0) x) (hasOf (joinOf l1) x)) : Ends (fun k => span_sets.f kf k l0 l1 c) (bothOf l0 l1 w) := by
  unfold span_sets.f bothOf
  refine Ends.bind (scheck_ends l0) ?_
  by_cases h0 : check04 l0 = 0
  · rw [if_pos h0]
    refine Ends.pos h0 (Ends.bind (scheck_ends l1) ?_)
    by_cases h1 : check04 l1 = 0
    · rw [if_pos h1]
      refine Ends.pos h1 ?_
      obtain ⟨g0, v0⟩ := good04 h0
      obtain ⟨g1, v1⟩ := good04 h1
      have u0 : ∀ s ∈ l0, -1 < s.f0 ∧ s.f0 ≤ s.f1 := fun s hs => by have := v0 s hs; omega
      have u1 : ∀ s ∈ l1, -1 < s.f0 ∧ s.f0 ≤ s.f1 := fun s hs => by have := v1 s hs; omega
      have n0 := joinOf_len l0 (-1) u0
      have n1 := joinOf_len l1 (-1) u1
      have b0 := joinOf_bound l0 (-1) 17179869184 (fun s hs => by have := v0 s hs; omega)
      have b1 := joinOf_bound l1 (-1) 17179869184 (fun s hs => by have := v1 s hs; omega)
      have e0 : span_joined.f l0 = some (joinOf l0) := by unfold span_joined.f; rw [if_pos (okSpans_good h0)]
      have e1 : span_joined.f l1 = some (joinOf l1) := by unfold span_joined.f; rw [if_pos (okSpans_good h1)]
      have e2 : slices_Concat_api_Span_api_Span_2.f (joinOf l0) (joinOf l1) = some (joinOf l0 ++ joinOf l1) := by unfold slices_Concat_api_Span_api_Span_2.f; rw [if_pos ⟨by omega, by omega⟩]
      simp only [e0, e1, e2, Option.bind_some]
      have hvv : ∀ s ∈ joinOf l0 ++ joinOf l1, (0 ≤ s.f0 ∧ s.f0 ≤ 17179869184) ∧ 0 ≤ s.f1 ∧ s.f1 ≤ 17179869184 := by
        intro s hs
        rcases List.mem_append.1 hs with hs | hs
        · have := b0 s hs; omega
        · have := b1 s hs; omega
      refine (sets_l0 kf kp hk (joinOf l0) (joinOf l1) (-1) (-1) (joinOf_ok l0 (-1) u0).1 (joinOf_ok l1 (-1) u1).1 (by omega) (by omega) (joinOf l0 ++ joinOf l1) (by simp; omega) hvv (by simp; omega) _ 0 [] rfl (by omega) (by simp; omega) (by simp)).congr ?_
      unfold setsFin
      rw [sweep_congr kp (joinOf l0) (joinOf l1) (wayOf w) hkw]
      rw [sets_comb l0 l1 w hw u0 u1 _ (sortI_sorted _) (fun x => by
        unfold sortI
        rw [List.mem_mergeSort]
        simp only [List.nil_append, List.drop_zero, List.mem_flatMap, List.mem_append, List.mem_cons, List.not_mem_nil, or_false])]
    · rw [if_neg h1]
      exact Ends.neg h1 (Ends.ret _)
  · rw [if_neg h0]
    exact Ends.neg h0 (Ends.ret _)
end
theorem wayOf_0 (p q : Bool) : wayOf 0 p q = (p || q) := by cases p <;> cases q <;> rfl
theorem wayOf_1 (p q : Bool) : wayOf 1 p q = (p && q) := by cases p <;> cases q <;> rfl
theorem wayOf_2 (p q : Bool) : wayOf 2 p q = (p && !q) := by cases p <;> cases q <;> rfl
end Go.Proofs.Ytcnkmdonbpgjiaa.G

namespace Go.Proofs.Ytcnkmdonbpgjiaa.G
open Go.RowKit Go.Proofs.YtcnkmdonbpgjiaaW.PrintWords Go.Proofs.YtcnkmdonbpgjiaaW.PrintLast Go.Proofs.YtcnkmdonbpgjiaaW.PrintMore
set_option linter.unusedVariables false
set_option linter.unusedSimpArgs false
theorem hasOf_nil (x : Int) : hasOf [] x = false := rfl
theorem joinOf_nil : joinOf [] = [] := rfl
theorem norm_ends (l : List S37) : Ends (fun k => span_Norm.f k l) (bothOf l [] 0) := by
  unfold span_Norm.f span_sets_Norm.f
  exact Ends.bind (sets_ends span_Norm_1.f (fun p _ => p) (fun p q => rfl) l [] true 0 (.inl rfl) (fun x => by rw [wayOf_0, joinOf_nil, hasOf_nil, Bool.or_false])) (Ends.ret _)
def tot (l : List S37) : Int := (l.map fun s => s.f1 - s.f0).sum
theorem tot_cons (s : S37) (l : List S37) : tot (s :: l) = s.f1 - s.f0 + tot l := by simp [tot]
def totalOf (l : List S37) : Int × Int := if check04 l = 0 then (tot (joinOf l), 0) else (0, check04 l)
theorem norm_fits {l : List S37} (h0 : check04 l = 0) : bothOf l [] 0 = (joinOf l, 0) := by
  obtain ⟨g0, v0⟩ := good04 h0
  have n0 := joinOf_len l (-1) (fun s hs => by have := v0 s hs; omega)
  unfold bothOf
  rw [if_pos h0, if_pos (show check04 [] = 0 from rfl)]
  unfold joinOf at n0 ⊢
  rw [if_neg (by omega)]
def movable (by_ : Int) (s : S37) : Prop := -s.f0 ≤ by_ ∧ by_ ≤ 17179869184 - s.f1
instance (by_ : Int) (s : S37) : Decidable (movable by_ s) := by unfold movable; infer_instance
def shift (by_ : Int) (s : S37) : S37 := ⟨s.f0 + by_, s.f1 + by_⟩
def moveOf (l : List S37) (by_ : Int) : List S37 × Int := if check04 l = 0 then (if ∀ s ∈ l, movable by_ s then (l.map (shift by_), 0) else ([], 1)) else ([], check04 l)
end Go.Proofs.Ytcnkmdonbpgjiaa.G

namespace Go.Proofs.Ytcnkmdonbpgjiaa.G
open Go.RowKit Go.Proofs.YtcnkmdonbpgjiaaW.PrintWords Go.Proofs.YtcnkmdonbpgjiaaW.PrintLast Go.Proofs.YtcnkmdonbpgjiaaW.PrintMore
attribute [local go_sem] max2_int min2_int max_two min_two max_three min_three max_four min_four   -- for this text's walks alone
set_option linter.unusedVariables false
set_option linter.unusedSimpArgs false

def iso_Image.l0 : Nat → List (S37) → List (S32) → Int → Int → Option ((List (S37)) × Int)
 | 0, _, _, _, _ => none
 | k + 1, x5, x13, x14, x15 => if x15 < x14 then (if 0 ≤ x15 then (if x15 < (x13.length : Int) then ((iso_images.f ((rd_T32 x13 x15).f0) ((rd_T32 x13 x15).f1) ((rd_T32 x13 x15).f2)).bind fun bt30004 => (if x5.length < 8796093022208 then (iso_Image.l0 k (x5 ++ [(⟨bt30004.1, bt30004.2⟩ : S37)]) x13 x14 (wrap64 (x15 + 1))) else (none))) else (none)) else (none)) else ((span_Norm.f k x5).bind fun bt30009 => (some (bt30009.1, bt30009.2)))
def iso_Image.f (k : Nat) (l0 : List (S32)) : Option ((List (S37)) × Int) := (iso_Check.f k l0).bind fun t30001 => (if t30001 = 0 then (iso_Image.l0 k ([] : List (S37)) l0 (l0.length : Int) 0) else (some (([] : List (S37)), t30001)))
theorem iso_Image.mono_l : ∀ k, (∀ y0 y1 y2 y3, LeO (iso_Image.l0 k y0 y1 y2 y3) (iso_Image.l0 (k + 1) y0 y1 y2 y3))
 | 0 => fun _ _ _ _ r h => by simp [iso_Image.l0] at h
 | k + 1 => by
  have ih0 := iso_Image.mono_l k
  ·intro y0 y1 y2 y3
   unfold iso_Image.l0
   repeat' first
   | (with_reducible exact ih0 _ _ _ _)
   | (with_reducible exact iso_Check.mono _ _)
   | (with_reducible exact span_Norm.mono _ _)
   | (with_reducible exact LeO.refl _)
   | (with_reducible exact LeO.none _)
   | (with_reducible refine LeO.ite ?_ ?_)
   | (with_reducible refine LeO.bind ?_ (fun _ => ?_))
   | exact ih0 _ _ _ _
   | exact iso_Check.mono _ _
   | exact span_Norm.mono _ _
   | exact LeO.none _
   | refine LeO.ite ?_ ?_
   | refine LeO.bind ?_ (fun _ => ?_)
theorem iso_Image.mono : ∀ a0 k, LeO (iso_Image.f k a0) (iso_Image.f (k + 1) a0) := by
 intro a0 k
 have ih0 := iso_Image.mono_l k
 unfold iso_Image.f
 repeat' first
   | (with_reducible exact ih0 _ _ _ _)
   | (with_reducible exact iso_Check.mono _ _)
   | (with_reducible exact span_Norm.mono _ _)
   | (with_reducible exact LeO.refl _)
   | (with_reducible exact LeO.none _)
   | (with_reducible refine LeO.ite ?_ ?_)
   | (with_reducible refine LeO.bind ?_ (fun _ => ?_))
   | exact ih0 _ _ _ _
   | exact iso_Check.mono _ _
   | exact span_Norm.mono _ _
   | exact LeO.none _
   | refine LeO.ite ?_ ?_
   | refine LeO.bind ?_ (fun _ => ?_)
set_option maxHeartbeats 8000000 in
set_option maxRecDepth 100000 in
theorem iso_Image.calls (k : Nat) (A0 : Option Addr) (c0 : Nat) (l0 : List (S32)) (r1 : List (S37)) (r2 : Int) (w : World) (hr0 : Kd.C k32 w A0 l0.length l0) (hc0 : l0.length ≤ c0) (h : iso_Image.f k l0 = some (r1, r2)) :
  Calls Try.prog 29 #[.slice A0 l0.length c0] w fun e w' => ∃ v0_ : Value, e = .returned (.tuple #[v0_, .int .i64 r2]) ∧ Kd.R k37 37 w' w.heap.size (fun _ => True) v0_ r1 ∧ Below w.heap.size w w' := by
 have hu32 := Try.underlying32
 have HR0 := Aside0.mk hr0
 have HC0 := Aside0.mk hc0
 clear hr0 hc0
 have HB := Aside0.mk (Below.refl w.heap.size w)
 have H : ((iso_Check.f k l0).bind fun t30001 => (if t30001 = 0 then (iso_Image.l0 k ([] : List (S37)) l0 (l0.length : Int) 0) else (some (([] : List (S37)), t30001)))) = some (r1, r2) := h
 clear h
 replace H := Option.bind_eq_some_iff.mp H
 obtain ⟨t30001, A20, H⟩ := H
 replace H : (if t30001 = 0 then (iso_Image.l0 k ([] : List (S37)) l0 (l0.length : Int) 0) else (some (([] : List (S37)), t30001))) = some (r1, r2) := H
 have A2 := Aside0.mk A20
 clear A20
 by_cases c3 : t30001 = 0
 ·rw [if_pos c3] at H
  have c3b0 : (t30001 == 0) = true := beq_iff_eq.mpr c3
  have c3b1 : (t30001 != 0) = false := bne_eq_false_iff_eq.mpr c3
  clear c3
  have H' := Aside0.mk H
  clear H
  go_enter Try.func29, Try.ntmps29
  go_wp2_with (first | ((with_reducible refine gate_callee (f := 14) rfl ?_); refine goesL_ (some 9) rfl rfl Try.func14 (by kernel_rfl) rfl #[.slice A0 l0.length c0] rfl (by (try simp only [List.map_toArray, List.map_cons, List.map_nil]); first | done | rfl | (simp only [List.length_drop, List.length_take]; rfl)) ?_; (with_reducible refine (iso_Check.calls k _ _ l0 t30001 _ ?side1 ?side2 A2.out).mono ?_); (case side1 => exact HR0.out); (case side2 => exact HC0.out); rintro e w4 ⟨rfl, hb⟩; refine ⟨_, rfl, ?_⟩; have n0_ := Aside0.mk (below_step (by repeat (first | exact HB.out | apply below_alloc | apply pw_below_drewN | apply below_drew1)) hb); clear HB; have HB := n0_; clear n0_; (try clear hb); (try clear hb2); (try clear hk); (try clear hi)))
  go_loopg [5, 15] k (fun kq v5 v15 w' => ∃ (x5_1 : List (S37)) (x15_1 : Int), v15 = .int .i64 x15_1 ∧ Aside0 (iso_Image.l0 kq x5_1 l0 (l0.length : Int) x15_1 = some (r1, r2)) ∧ Aside0 (kq ≤ k) ∧ Aside0 (Kd.R k37 37 w' w.heap.size (fun _ => True) v5 x5_1) ∧ Aside0 (Below w.heap.size w w'))
  case atStart => exact ⟨(([] : List (S37))), (0), (by first | rfl | (simp; done) | (simp [*]; done)), H', ⟨Nat.le_refl _⟩, ⟨by first | exact Kd.R_nil _ _ _ _ _ | exact Kd.N_nil _ _ _ _ _ | exact Kd.V_nil _ _ _ _ _ | exact Kd.Q_nil _ _ _ _ _ | exact Kd.S_nil _ _ _ _ _⟩, ⟨by repeat (first | exact HB.out | apply below_alloc | apply pw_below_drewN | apply below_drew1)⟩⟩
  case round =>
   clear H'
   try clear c1
   try clear c2
   try clear p2
   try clear c3
   try clear c3b0
   try clear c3b1
   obtain ⟨x5_1, x15_1, rfl, HA, HK1, HO_5, HB⟩ := hrel
   cases gk with
   | zero => exact absurd HA.out (by simp [iso_Image.l0])
   | succ k1 =>
    have H := HA.out
    clear HA
    simp only [iso_Image.l0] at H
    by_cases c5 : x15_1 < (l0.length : Int)
    ·rw [if_pos c5] at H
     have c5b0 : decide (x15_1 < (l0.length : Int)) = true := decide_eq_true c5
     clear c5
     by_cases c6 : 0 ≤ x15_1
     ·rw [if_pos c6] at H
      have c6b0 : decide (0 ≤ x15_1) = true := decide_eq_true c6
      clear c6
      by_cases c7 : x15_1 < (l0.length : Int)
      ·rw [if_pos c7] at H
       have c7b0 : decide (x15_1 < (l0.length : Int)) = true := decide_eq_true c7
       clear c7
       replace H := Option.bind_eq_some_iff.mp H
       obtain ⟨⟨t30004, t30005⟩, A80, H⟩ := H
       replace H : (if x5_1.length < 8796093022208 then (iso_Image.l0 k1 (x5_1 ++ [(⟨t30004, t30005⟩ : S37)]) l0 (l0.length : Int) (wrap64 (x15_1 + 1))) else (none)) = some (r1, r2) := H
       have A8 := Aside0.mk A80
       clear A80
       by_cases c9 : x5_1.length < 8796093022208
       ·rw [if_pos c9] at H
        have LMc9 := Aside0.mk c9
        clear c9
        obtain ⟨y30006, hy30006⟩ : ∃ y_ : List (S37), y_ = (x5_1 ++ [(⟨t30004, t30005⟩ : S37)]) := ⟨_, rfl⟩
        replace H : (iso_Image.l0 k1 y30006 l0 (l0.length : Int) (wrap64 (x15_1 + 1))) = some (r1, r2) := by first | (rw [hy30006]; with_reducible exact H) | (have H2_ := (Option.bind_some _ _).symm.trans H; rw [hy30006]; with_reducible exact H2_) | (have H2_ := (Option.bind_some _ _).symm.trans H; with_reducible exact H2_) | with_reducible exact H | (rw [hy30006]; exact H) | exact H
        have Ny30006 := Aside0.mk hy30006
        clear hy30006
        have H' := Aside0.mk H
        clear H
        have p30002 : 0 ≤ (x15_1 : Int) := of_decide_eq_true (by assumption)
        have q30002 : x15_1 < (l0.length : Int) := of_decide_eq_true (by assumption)
        obtain ⟨ad30002, e30002, hx30002_0, hx30002_1, hx30002_2⟩ := at_T32 HR0.out x15_1 p30002 q30002
        cases e30002
        replace hx30002_0 := (HB.out.cell (World.block_lt_of_cell? w _ hx30002_0)).trans hx30002_0
        replace hx30002_1 := (HB.out.cell (World.block_lt_of_cell? w _ hx30002_1)).trans hx30002_1
        replace hx30002_2 := (HB.out.cell (World.block_lt_of_cell? w _ hx30002_2)).trans hx30002_2
        replace p30002 := eq_true p30002
        replace q30002 := eq_true q30002
        go_wp2_with (first | ((with_reducible refine gate_dst (N := 7) rfl ?_); refine box_event ?hg (N := 7) ?hd (cs := #[.int .i64 0, .int .i64 0, .bool false]) (t := 32) ?hr ?_; (case hd => rfl); (case hg => rfl); (case hr => first | (go_simp; done) | (go_simp; rfl)); intro gb30003 hg w10 hbox hb; have n0_ := Aside0.mk (Kd.R_below (HO_5.out) hb); have n1_ := Aside0.mk (below_step (by repeat (first | exact HB.out | apply below_alloc | apply pw_below_drewN | apply below_drew1)) hb); have n2_ := Aside0.mk (hbox); have n3_ := Aside0.mk ((by rw [hg]; exact (below_size (by repeat (first | exact HB.out | apply below_alloc | apply pw_below_drewN | apply below_drew1))) : w.heap.size ≤ gb30003)); have n4_ := Aside0.mk ((by rw [hg]; exact (below_size (by repeat (first | exact HB.out | apply below_alloc | apply pw_below_drewN | apply below_drew1))) : w.heap.size ≤ gb30003)); clear HO_5; clear HB; have HO_5 := n0_; have HB := n1_; have BK30003 := n2_; have GW30003 := n3_; have GE30003 := n4_; clear n0_ n1_ n2_ n3_ n4_; clear hb hbox hg; have hcz11_0 : w10.cell? ⟨gb30003, 0, none⟩ = some (.int .i64 0) := (blk_cell BK30003.out 0).trans rfl; have hcz11_1 : w10.cell? ⟨gb30003, 1, none⟩ = some (.int .i64 0) := (blk_cell BK30003.out 1).trans rfl; have hcz11_2 : w10.cell? ⟨gb30003, 2, none⟩ = some (.bool false) := (blk_cell BK30003.out 2).trans rfl; have hfz11_0 := blk_frozen BK30003.out 0; have hfz11_1 := blk_frozen BK30003.out 1; have hfz11_2 := blk_frozen BK30003.out 2) | ((with_reducible refine gate_callee (f := 57) rfl ?_); refine goesL_ (some 21) rfl rfl Try.func57 (by kernel_rfl) rfl #[.agg #[.int .i64 ((rd_T32 l0 x15_1).f0), .int .i64 ((rd_T32 l0 x15_1).f1), .bool ((rd_T32 l0 x15_1).f2)]] rfl (by (try simp only [List.map_toArray, List.map_cons, List.map_nil]); first | done | rfl | (simp only [List.length_drop, List.length_take]; rfl)) ?_; (with_reducible refine (iso_images.calls ((rd_T32 l0 x15_1).f0) ((rd_T32 l0 x15_1).f1) ((rd_T32 l0 x15_1).f2) t30004 t30005 _ A8.out).mono ?_); rintro e w12 ⟨rfl, hb⟩; refine ⟨_, rfl, ?_⟩; have n0_ := Aside0.mk (Kd.R_below (by exact (Kd.R_mono (Kd.R_far (p := ⟨gb30003, 2, none⟩) (Kd.R_far (p := ⟨gb30003, 1, none⟩) (Kd.R_far (p := ⟨gb30003, 0, none⟩) (Kd.R_types HO_5.out BK30003.out (by decide)) (fun _ hk => hk.2) (.int .i64 ((rd_T32 l0 x15_1).f0))) (fun _ hk => hk.2) (.int .i64 ((rd_T32 l0 x15_1).f1))) (fun _ hk => hk.2) (.bool ((rd_T32 l0 x15_1).f2))) (fun _ h_ => h_.1))) hb); have n1_ := Aside0.mk (blk_below (g := gb30003) (o := .cells #[.int .i64 ((rd_T32 l0 x15_1).f0), .int .i64 ((rd_T32 l0 x15_1).f1), .bool ((rd_T32 l0 x15_1).f2)] 32 (0, 0)) (by refine blk_put (cs := #[.int .i64 ((rd_T32 l0 x15_1).f0), .int .i64 ((rd_T32 l0 x15_1).f1), .bool false]) ?_ 2 _ rfl; refine blk_put (cs := #[.int .i64 ((rd_T32 l0 x15_1).f0), .int .i64 0, .bool false]) ?_ 1 _ rfl; refine blk_put (cs := #[.int .i64 0, .int .i64 0, .bool false]) ?_ 0 _ rfl; exact BK30003.out) hb); have n2_ := Aside0.mk (below_step (by repeat (first | exact HB.out | apply below_alloc | apply pw_below_drewN | apply below_drew1 | refine below_set ?_ GE30003.out)) hb); clear HO_5; clear BK30003; clear HB; have HO_5 := n0_; have BK30003 := n1_; have HB := n2_; clear n0_ n1_ n2_; (try clear hb); (try clear hb2); (try clear hk); (try clear hi)) | ((with_reducible refine gate_builtin (b := .append) (xs := #[.tmp 19, .tmp 22]) rfl ?_); at_builtin; refine Kd.R_append k37 (w0 := w) w.heap.size rfl (.tmp 19) (.tmp 22) 41 37 (.agg #[(.int .i64 0), (.int .i64 0)]) 16 rfl Try.underlying41 info37 rfl (by decide) (by omega) u5 x5_1 (⟨t30004, t30005⟩ : S37) [.int .i64 t30004, .int .i64 t30005] (fun _ => True) (fun _ => False) rfl rfl ?aP (fun _ hk => hk.elim) ?aF ?aO ?aB ?aS ?aL ?_; (case aP => exact k37_mkM _ _ _ (⟨t30004, t30005⟩ : S37)); (case aB => exact (by repeat (first | exact HB.out | apply below_alloc | apply pw_below_drewN | apply below_drew1 | refine below_set ?_ GE30003.out))); (case aF => exact (fun _ _ => trivial)); (case aO => exact (HO_5.out)); (case aS => exact (below_size (by repeat (first | exact HB.out | apply below_alloc | apply pw_below_drewN | apply below_drew1 | refine below_set ?_ GE30003.out)))); (case aL => have := LMc9.out; omega); intro v30007 w13 ho hb hg hat; rw [← Ny30006.out] at ho; have n0_ := Aside0.mk (blk_grown (g := gb30003) (o := .cells #[.int .i64 ((rd_T32 l0 x15_1).f0), .int .i64 ((rd_T32 l0 x15_1).f1), .bool ((rd_T32 l0 x15_1).f2)] 32 (0, 0)) (BK30003.out) hg (Kd.R_ne HO_5.out BK30003.out (by decide))); have n1_ := Aside0.mk (hb); have n2_ := Aside0.mk (ho); clear BK30003; clear HB; clear HO_5; have BK30003 := n0_; have HB := n1_; have HO30008 := n2_; clear n0_ n1_ n2_; clear ho hb hg hat))
        go_roundg k1
        case measure => have := HK1.out; omega
        case rel => exact ⟨(y30006), (wrap64 (x15_1 + 1)), (by first | rfl | (simp; done) | (simp [*]; done)), H', ⟨by have := HK1.out; omega⟩, ⟨HO30008.out⟩, ⟨by repeat (first | exact HB.out | apply below_alloc | apply pw_below_drewN | apply below_drew1 | refine below_set ?_ GE30003.out)⟩⟩
       ·rw [if_neg c9] at H
        exact absurd H (by simp)
      ·rw [if_neg c7] at H
       exact absurd H (by simp)
     ·rw [if_neg c6] at H
      exact absurd H (by simp)
    ·rw [if_neg c5] at H
     have c5b0 : decide (x15_1 < (l0.length : Int)) = false := decide_eq_false c5
     clear c5
     replace H := Option.bind_eq_some_iff.mp H
     obtain ⟨⟨t30009, t30010⟩, A140, H⟩ := H
     replace H : (some (t30009, t30010)) = some (r1, r2) := H
     have A14 := Aside0.mk A140
     clear A140
     simp only [Option.some.injEq, Prod.mk.injEq] at H
     obtain ⟨rfl, rfl⟩ := H
     obtain ⟨Ao15, co15, eo15⟩ := Kd.R_slice HO_5.out
     subst eo15
     go_wp2_with (first | ((with_reducible refine gate_callee (f := 58) rfl ?_); refine goesL_ (some 26) rfl rfl Try.func58 (by kernel_rfl) rfl #[.slice Ao15 x5_1.length co15] rfl (by (try simp only [List.map_toArray, List.map_cons, List.map_nil]); first | done | rfl | (simp only [List.length_drop, List.length_take]; rfl)) ?_; (with_reducible refine (span_Norm.calls k1 _ _ x5_1 t30009 t30010 _ ?side1 ?side2 A14.out).mono ?_); (case side1 => exact (Kd.R_reads' HO_5.out).2.2); (case side2 => exact (Kd.R_reads' HO_5.out).2.1); rintro e w16 ⟨v30011, rfl, ho0, hb⟩; refine ⟨_, rfl, ?_⟩; have n0_ := Aside0.mk (Kd.R_elder' (HO_5.out) (Kd.R_base ho0) hb); have n1_ := Aside0.mk (Kd.R_lower (Kd.R_new' ho0 (Kd.R_lt (HO_5.out))) (below_size (by repeat (first | exact HB.out | apply below_alloc | apply pw_below_drewN | apply below_drew1)))); have n2_ := Aside0.mk (below_step (by repeat (first | exact HB.out | apply below_alloc | apply pw_below_drewN | apply below_drew1)) hb); clear HO_5; clear HB; have HO_5 := n0_; have HO30012 := n1_; have HB := n2_; clear n0_ n1_ n2_; (try clear hb); (try clear hb2); (try clear hk); (try clear hi); (try clear ho0)))
     go_ret2
     exact ⟨_, by first | rfl | (simp [errW_none, errW_some] <;> rfl) | (simp [*, errW_none, errW_some] <;> rfl), by exact Kd.R_mono HO30012.out (fun _ hk => trivial), by repeat (first | exact HB.out | apply below_alloc | apply pw_below_drewN | apply below_drew1)⟩
 ·rw [if_neg c3] at H
  have c3b0 : (t30001 == 0) = false := beq_eq_false_iff_ne.mpr c3
  have c3b1 : (t30001 != 0) = true := bne_iff_ne.mpr c3
  simp only [Option.some.injEq, Prod.mk.injEq] at H
  obtain ⟨rfl, rfl⟩ := H
  go_enter Try.func29, Try.ntmps29
  go_wp2_with (first | ((with_reducible refine gate_callee (f := 14) rfl ?_); refine goesL_ (some 9) rfl rfl Try.func14 (by kernel_rfl) rfl #[.slice A0 l0.length c0] rfl (by (try simp only [List.map_toArray, List.map_cons, List.map_nil]); first | done | rfl | (simp only [List.length_drop, List.length_take]; rfl)) ?_; (with_reducible refine (iso_Check.calls k _ _ l0 t30001 _ ?side1 ?side2 A2.out).mono ?_); (case side1 => exact HR0.out); (case side2 => exact HC0.out); rintro e w17 ⟨rfl, hb⟩; refine ⟨_, rfl, ?_⟩; have n0_ := Aside0.mk (below_step (by repeat (first | exact HB.out | apply below_alloc | apply pw_below_drewN | apply below_drew1)) hb); clear HB; have HB := n0_; clear n0_; (try clear hb); (try clear hb2); (try clear hk); (try clear hi)))
  go_ret2
  exact ⟨_, by first | rfl | (simp [errW_none, errW_some] <;> rfl) | (simp [*, errW_none, errW_some] <;> rfl), by first | exact Kd.R_nil _ _ _ _ _ | exact Kd.N_nil _ _ _ _ _ | exact Kd.V_nil _ _ _ _ _ | exact Kd.Q_nil _ _ _ _ _ | exact Kd.S_nil _ _ _ _ _, by repeat (first | exact HB.out | apply below_alloc | apply pw_below_drewN | apply below_drew1)⟩

end Go.Proofs.Ytcnkmdonbpgjiaa.G

namespace Go.Proofs.Ytcnkmdonbpgjiaa.G
open Go.RowKit Go.Proofs.YtcnkmdonbpgjiaaW.PrintWords Go.Proofs.YtcnkmdonbpgjiaaW.PrintLast Go.Proofs.YtcnkmdonbpgjiaaW.PrintMore
attribute [local go_sem] max2_int min2_int max_two min_two max_three min_three max_four min_four   -- for this text's walks alone
set_option linter.unusedVariables false
set_option linter.unusedSimpArgs false

def iso_Single.f (k : Nat) (l0 : List (S32)) : Option (Bool) := (iso_Image.f k l0).bind fun bt17001 => (if bt17001.2 = 0 then ((span_Total.f k bt17001.1).bind fun bt17005 => (if bt17005.2 = 0 then ((iso_length.f k l0).bind fun t17007 => (some (bt17005.1 == t17007))) else (some false))) else (some false))
theorem iso_Single.mono : ∀ a0 k, LeO (iso_Single.f k a0) (iso_Single.f (k + 1) a0) := by
 intro a0 k
 unfold iso_Single.f
 repeat' first
   | (with_reducible exact iso_Image.mono _ _)
   | (with_reducible exact iso_length.mono _ _)
   | (with_reducible exact span_Total.mono _ _)
   | (with_reducible exact LeO.refl _)
   | (with_reducible exact LeO.none _)
   | (with_reducible refine LeO.ite ?_ ?_)
   | (with_reducible refine LeO.bind ?_ (fun _ => ?_))
   | exact iso_Image.mono _ _
   | exact iso_length.mono _ _
   | exact span_Total.mono _ _
   | exact LeO.none _
   | refine LeO.ite ?_ ?_
   | refine LeO.bind ?_ (fun _ => ?_)
set_option maxHeartbeats 8000000 in
set_option maxRecDepth 100000 in
theorem iso_Single.calls (k : Nat) (A0 : Option Addr) (c0 : Nat) (l0 : List (S32)) (r : Bool) (w : World) (hr0 : Kd.C k32 w A0 l0.length l0) (hc0 : l0.length ≤ c0) (h : iso_Single.f k l0 = some r) :
  Calls Try.prog 16 #[.slice A0 l0.length c0] w fun e w' => e = .returned (.bool r) ∧ Below w.heap.size w w' := by
 have HR0 := Aside0.mk hr0
 have HC0 := Aside0.mk hc0
 clear hr0 hc0
 have HB := Aside0.mk (Below.refl w.heap.size w)
 have H : ((iso_Image.f k l0).bind fun bt17001 => (if bt17001.2 = 0 then ((span_Total.f k bt17001.1).bind fun bt17005 => (if bt17005.2 = 0 then ((iso_length.f k l0).bind fun t17007 => (some (bt17005.1 == t17007))) else (some false))) else (some false))) = some r := h
 clear h
 replace H := Option.bind_eq_some_iff.mp H
 obtain ⟨⟨t17001, t17002⟩, A20, H⟩ := H
 replace H : (if t17002 = 0 then ((span_Total.f k t17001).bind fun bt17005 => (if bt17005.2 = 0 then ((iso_length.f k l0).bind fun t17007 => (some (bt17005.1 == t17007))) else (some false))) else (some false)) = some r := H
 have A2 := Aside0.mk A20
 clear A20
 by_cases c3 : t17002 = 0
 ·rw [if_pos c3] at H
  have c3b0 : (t17002 == 0) = true := beq_iff_eq.mpr c3
  have c3b1 : (t17002 != 0) = false := bne_eq_false_iff_eq.mpr c3
  clear c3
  replace H := Option.bind_eq_some_iff.mp H
  obtain ⟨⟨t17005, t17006⟩, A40, H⟩ := H
  replace H : (if t17006 = 0 then ((iso_length.f k l0).bind fun t17007 => (some (t17005 == t17007))) else (some false)) = some r := H
  have A4 := Aside0.mk A40
  clear A40
  by_cases c5 : t17006 = 0
  ·rw [if_pos c5] at H
   have c5b0 : (t17006 == 0) = true := beq_iff_eq.mpr c5
   have c5b1 : (t17006 != 0) = false := bne_eq_false_iff_eq.mpr c5
   clear c5
   replace H := Option.bind_eq_some_iff.mp H
   obtain ⟨t17007, A60, H⟩ := H
   replace H : (some (t17005 == t17007)) = some r := H
   have A6 := Aside0.mk A60
   clear A60
   obtain rfl := Option.some.inj H
   go_enter Try.func16, Try.ntmps16
   go_wp2_with (first | ((with_reducible refine gate_callee (f := 29) rfl ?_); refine goesL_ (some 9) rfl rfl Try.func29 (by kernel_rfl) rfl #[.slice A0 l0.length c0] rfl (by (try simp only [List.map_toArray, List.map_cons, List.map_nil]); first | done | rfl | (simp only [List.length_drop, List.length_take]; rfl)) ?_; (with_reducible refine (iso_Image.calls k _ _ l0 t17001 t17002 _ ?side1 ?side2 A2.out).mono ?_); (case side1 => exact HR0.out); (case side2 => exact HC0.out); rintro e w7 ⟨v17003, rfl, ho0, hb⟩; refine ⟨_, rfl, ?_⟩; have n0_ := Aside0.mk (Kd.R_lower ho0 (below_size (by repeat (first | exact HB.out | apply below_alloc | apply pw_below_drewN | apply below_drew1)))); have n1_ := Aside0.mk (below_step (by repeat (first | exact HB.out | apply below_alloc | apply pw_below_drewN | apply below_drew1)) hb); clear HB; have HO17004 := n0_; have HB := n1_; clear n0_ n1_; (try clear hb); (try clear hb2); (try clear hk); (try clear hi); (try clear ho0); obtain ⟨Ao8, co8, eo8⟩ := Kd.R_slice HO17004.out; subst eo8) | ((with_reducible refine gate_callee (f := 34) rfl ?_); refine goesL_ (some 16) rfl rfl Try.func34 (by kernel_rfl) rfl #[.slice Ao8 t17001.length co8] rfl (by (try simp only [List.map_toArray, List.map_cons, List.map_nil]); first | done | rfl | (simp only [List.length_drop, List.length_take]; rfl)) ?_; (with_reducible refine (span_Total.calls k _ _ t17001 t17005 t17006 _ ?side1 ?side2 A4.out).mono ?_); (case side1 => exact (Kd.R_reads' HO17004.out).2.2); (case side2 => exact (Kd.R_reads' HO17004.out).2.1); rintro e w9 ⟨rfl, hb⟩; refine ⟨_, rfl, ?_⟩; have n0_ := Aside0.mk (Kd.R_below (HO17004.out) hb); have n1_ := Aside0.mk (below_step (by repeat (first | exact HB.out | apply below_alloc | apply pw_below_drewN | apply below_drew1)) hb); clear HO17004; clear HB; have HO17004 := n0_; have HB := n1_; clear n0_ n1_; (try clear hb); (try clear hb2); (try clear hk); (try clear hi)) | (go_at_call 43; (with_reducible refine (iso_length.calls k _ _ l0 t17007 _ ?side1 ?side2 A6.out).mono ?_); (case side1 => exact (Kd.C_below HR0.out HB.out)); (case side2 => exact HC0.out); rintro e w10 ⟨rfl, hb⟩; have n0_ := Aside0.mk (Kd.R_below (HO17004.out) hb); have n1_ := Aside0.mk (below_step (by repeat (first | exact HB.out | apply below_alloc | apply pw_below_drewN | apply below_drew1)) hb); clear HO17004; clear HB; have HO17004 := n0_; have HB := n1_; clear n0_ n1_; (try clear hb); (try clear hb2); (try clear hk); (try clear hi)))
   go_ret
   exact ⟨by first | rfl | (simp [errW_none, errW_some] <;> rfl) | (simp [*, errW_none, errW_some] <;> rfl), by repeat (first | exact HB.out | apply below_alloc | apply pw_below_drewN | apply below_drew1)⟩
  ·rw [if_neg c5] at H
   have c5b0 : (t17006 == 0) = false := beq_eq_false_iff_ne.mpr c5
   have c5b1 : (t17006 != 0) = true := bne_iff_ne.mpr c5
   obtain rfl := Option.some.inj H
   go_enter Try.func16, Try.ntmps16
   go_wp2_with (first | ((with_reducible refine gate_callee (f := 29) rfl ?_); refine goesL_ (some 9) rfl rfl Try.func29 (by kernel_rfl) rfl #[.slice A0 l0.length c0] rfl (by (try simp only [List.map_toArray, List.map_cons, List.map_nil]); first | done | rfl | (simp only [List.length_drop, List.length_take]; rfl)) ?_; (with_reducible refine (iso_Image.calls k _ _ l0 t17001 t17002 _ ?side1 ?side2 A2.out).mono ?_); (case side1 => exact HR0.out); (case side2 => exact HC0.out); rintro e w11 ⟨v17003, rfl, ho0, hb⟩; refine ⟨_, rfl, ?_⟩; have n0_ := Aside0.mk (Kd.R_lower ho0 (below_size (by repeat (first | exact HB.out | apply below_alloc | apply pw_below_drewN | apply below_drew1)))); have n1_ := Aside0.mk (below_step (by repeat (first | exact HB.out | apply below_alloc | apply pw_below_drewN | apply below_drew1)) hb); clear HB; have HO17004 := n0_; have HB := n1_; clear n0_ n1_; (try clear hb); (try clear hb2); (try clear hk); (try clear hi); (try clear ho0); obtain ⟨Ao12, co12, eo12⟩ := Kd.R_slice HO17004.out; subst eo12) | ((with_reducible refine gate_callee (f := 34) rfl ?_); refine goesL_ (some 16) rfl rfl Try.func34 (by kernel_rfl) rfl #[.slice Ao12 t17001.length co12] rfl (by (try simp only [List.map_toArray, List.map_cons, List.map_nil]); first | done | rfl | (simp only [List.length_drop, List.length_take]; rfl)) ?_; (with_reducible refine (span_Total.calls k _ _ t17001 t17005 t17006 _ ?side1 ?side2 A4.out).mono ?_); (case side1 => exact (Kd.R_reads' HO17004.out).2.2); (case side2 => exact (Kd.R_reads' HO17004.out).2.1); rintro e w13 ⟨rfl, hb⟩; refine ⟨_, rfl, ?_⟩; have n0_ := Aside0.mk (Kd.R_below (HO17004.out) hb); have n1_ := Aside0.mk (below_step (by repeat (first | exact HB.out | apply below_alloc | apply pw_below_drewN | apply below_drew1)) hb); clear HO17004; clear HB; have HO17004 := n0_; have HB := n1_; clear n0_ n1_; (try clear hb); (try clear hb2); (try clear hk); (try clear hi)))
   go_ret
   exact ⟨by first | rfl | (simp [errW_none, errW_some] <;> rfl) | (simp [*, errW_none, errW_some] <;> rfl), by repeat (first | exact HB.out | apply below_alloc | apply pw_below_drewN | apply below_drew1)⟩
 ·rw [if_neg c3] at H
  have c3b0 : (t17002 == 0) = false := beq_eq_false_iff_ne.mpr c3
  have c3b1 : (t17002 != 0) = true := bne_iff_ne.mpr c3
  obtain rfl := Option.some.inj H
  go_enter Try.func16, Try.ntmps16
  go_wp2_with (first | ((with_reducible refine gate_callee (f := 29) rfl ?_); refine goesL_ (some 9) rfl rfl Try.func29 (by kernel_rfl) rfl #[.slice A0 l0.length c0] rfl (by (try simp only [List.map_toArray, List.map_cons, List.map_nil]); first | done | rfl | (simp only [List.length_drop, List.length_take]; rfl)) ?_; (with_reducible refine (iso_Image.calls k _ _ l0 t17001 t17002 _ ?side1 ?side2 A2.out).mono ?_); (case side1 => exact HR0.out); (case side2 => exact HC0.out); rintro e w14 ⟨v17003, rfl, ho0, hb⟩; refine ⟨_, rfl, ?_⟩; have n0_ := Aside0.mk (Kd.R_lower ho0 (below_size (by repeat (first | exact HB.out | apply below_alloc | apply pw_below_drewN | apply below_drew1)))); have n1_ := Aside0.mk (below_step (by repeat (first | exact HB.out | apply below_alloc | apply pw_below_drewN | apply below_drew1)) hb); clear HB; have HO17004 := n0_; have HB := n1_; clear n0_ n1_; (try clear hb); (try clear hb2); (try clear hk); (try clear hi); (try clear ho0)))
  go_ret
  exact ⟨by first | rfl | (simp [errW_none, errW_some] <;> rfl) | (simp [*, errW_none, errW_some] <;> rfl), by repeat (first | exact HB.out | apply below_alloc | apply pw_below_drewN | apply below_drew1)⟩

end Go.Proofs.Ytcnkmdonbpgjiaa.G
