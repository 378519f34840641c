import Derived.Test.YtcnkmdonbpgjiaaQ1
import Derived.Test.YtcnkmdonbpgjiaaQ3
import Derived.Test.YtcnkmdonbpgjiaaQ4
import Derived.ArgAppend
import Derived.Test.YtcnkmdonbpgjiaaQ5
namespace Go.Proofs.Ytcnkmdonbpgjiaa.G
open Go.RowKit Go.Proofs.YtcnkmdonbpgjiaaW.PrintWords Go.Proofs.YtcnkmdonbpgjiaaW.PrintLast Go.Proofs.YtcnkmdonbpgjiaaW.PrintMore
attribute [local go_sem] max2_int min2_int max_two min_two max_three min_three max_four min_four   -- for this text's walks alone
set_option linter.unusedVariables false
set_option linter.unusedSimpArgs false

def iso_Length.f (k : Nat) (l0 : List (S32)) : Option (Int × Int) := (iso_Check.f k l0).bind fun t25001 => (if t25001 = 0 then ((iso_length.f k l0).bind fun t25002 => (some (t25002, 0))) else (some (0, t25001)))
theorem iso_Length.mono : ∀ a0 k, LeO (iso_Length.f k a0) (iso_Length.f (k + 1) a0) := by
  intro a0 k
  unfold iso_Length.f
  repeat' first
      | (with_reducible exact iso_Check.mono _ _)
      | (with_reducible exact iso_length.mono _ _)
      | (with_reducible exact LeO.refl _)
      | (with_reducible exact LeO.none _)
      | (with_reducible refine LeO.ite ?_ ?_)
      | (with_reducible refine LeO.bind ?_ (fun _ => ?_))
      | exact iso_Check.mono _ _
      | exact iso_length.mono _ _
      | exact LeO.none _
      | refine LeO.ite ?_ ?_
      | refine LeO.bind ?_ (fun _ => ?_)
set_option maxHeartbeats 8000000 in
set_option maxRecDepth 100000 in
theorem iso_Length.calls (k : Nat) (A0 : Option Addr) (c0 : Nat) (l0 : List (S32)) (r1 : Int) (r2 : Int) (w : World) (hr0 : Kd.C k32 w A0 l0.length l0) (hc0 : l0.length ≤ c0) (h : iso_Length.f k l0 = some (r1, r2)) :
    Calls Try.prog 24 #[.slice A0 l0.length c0] w fun e w' => e = .returned (.tuple #[.int .i64 r1, .int .i64 r2]) ∧ Below w.heap.size w w' := by
  have HR0 := Aside0.mk hr0
  have HC0 := Aside0.mk hc0
  clear hr0 hc0
  have HB := Aside0.mk (Below.refl w.heap.size w)
  have H : ((iso_Check.f k l0).bind fun t25001 => (if t25001 = 0 then ((iso_length.f k l0).bind fun t25002 => (some (t25002, 0))) else (some (0, t25001)))) = some (r1, r2) := h
  clear h
  replace H := Option.bind_eq_some_iff.mp H
  obtain ⟨t25001, A20, H⟩ := H
  replace H : (if t25001 = 0 then ((iso_length.f k l0).bind fun t25002 => (some (t25002, 0))) else (some (0, t25001))) = some (r1, r2) := H
  have A2 := Aside0.mk A20
  clear A20
  by_cases c3 : t25001 = 0
  · rw [if_pos c3] at H
    have c3b0 : (t25001 == 0) = true := beq_iff_eq.mpr c3
    have c3b1 : (t25001 != 0) = false := bne_eq_false_iff_eq.mpr c3
    clear c3
    replace H := Option.bind_eq_some_iff.mp H
    obtain ⟨t25002, A40, H⟩ := H
    replace H : (some (t25002, 0)) = some (r1, r2) := H
    have A4 := Aside0.mk A40
    clear A40
    simp only [Option.some.injEq, Prod.mk.injEq] at H
    obtain ⟨rfl, rfl⟩ := H
    go_enter Try.func24, Try.ntmps24
    go_wp2_with (first | ((with_reducible refine gate_callee (f := 14) rfl ?_); refine goesL_ (some 6) rfl rfl Try.func14 (by kernel_rfl) rfl #[.slice A0 l0.length c0] rfl (by (try simp only [List.map_toArray, List.map_cons, List.map_nil]); first | done | rfl | (simp only [List.length_drop, List.length_take]; rfl)) ?_; (with_reducible refine (iso_Check.calls k _ _ l0 t25001 _ ?side1 ?side2 A2.out).mono ?_); (case side1 => exact HR0.out); (case side2 => exact HC0.out); rintro e w5 ⟨rfl, hb⟩; refine ⟨_, rfl, ?_⟩; have n0_ := Aside0.mk (below_step (by repeat (first | exact HB.out | apply below_alloc | apply pw_below_drewN | apply below_drew1)) hb); clear HB; have HB := n0_; clear n0_; (try clear hb); (try clear hb2); (try clear hk); (try clear hi)) | ((with_reducible refine gate_callee (f := 43) rfl ?_); refine goesL_ (some 11) rfl rfl Try.func43 (by kernel_rfl) rfl #[.slice A0 l0.length c0] rfl (by (try simp only [List.map_toArray, List.map_cons, List.map_nil]); first | done | rfl | (simp only [List.length_drop, List.length_take]; rfl)) ?_; (with_reducible refine (iso_length.calls k _ _ l0 t25002 _ ?side1 ?side2 A4.out).mono ?_); (case side1 => exact (Kd.C_below HR0.out HB.out)); (case side2 => exact HC0.out); rintro e w6 ⟨rfl, hb⟩; refine ⟨_, rfl, ?_⟩; have n0_ := Aside0.mk (below_step (by repeat (first | exact HB.out | apply below_alloc | apply pw_below_drewN | apply below_drew1)) hb); clear HB; have HB := n0_; clear n0_; (try clear hb); (try clear hb2); (try clear hk); (try clear hi)))
    go_ret2
    exact ⟨by first | rfl | (simp [errW_none, errW_some] <;> rfl) | (simp [*, errW_none, errW_some] <;> rfl), by repeat (first | exact HB.out | apply below_alloc | apply pw_below_drewN | apply below_drew1)⟩
  · rw [if_neg c3] at H
    have c3b0 : (t25001 == 0) = false := beq_eq_false_iff_ne.mpr c3
    have c3b1 : (t25001 != 0) = true := bne_iff_ne.mpr c3
    simp only [Option.some.injEq, Prod.mk.injEq] at H
    obtain ⟨rfl, rfl⟩ := H
    go_enter Try.func24, Try.ntmps24
    go_wp2_with (first | ((with_reducible refine gate_callee (f := 14) rfl ?_); refine goesL_ (some 6) rfl rfl Try.func14 (by kernel_rfl) rfl #[.slice A0 l0.length c0] rfl (by (try simp only [List.map_toArray, List.map_cons, List.map_nil]); first | done | rfl | (simp only [List.length_drop, List.length_take]; rfl)) ?_; (with_reducible refine (iso_Check.calls k _ _ l0 t25001 _ ?side1 ?side2 A2.out).mono ?_); (case side1 => exact HR0.out); (case side2 => exact HC0.out); rintro e w7 ⟨rfl, hb⟩; refine ⟨_, rfl, ?_⟩; have n0_ := Aside0.mk (below_step (by repeat (first | exact HB.out | apply below_alloc | apply pw_below_drewN | apply below_drew1)) hb); clear HB; have HB := n0_; clear n0_; (try clear hb); (try clear hb2); (try clear hk); (try clear hi)))
    go_ret2
    exact ⟨by first | rfl | (simp [errW_none, errW_some] <;> rfl) | (simp [*, errW_none, errW_some] <;> rfl), by repeat (first | exact HB.out | apply below_alloc | apply pw_below_drewN | apply below_drew1)⟩

end Go.Proofs.Ytcnkmdonbpgjiaa.G

namespace Go.Proofs.Ytcnkmdonbpgjiaa.G
open Go.RowKit Go.Proofs.YtcnkmdonbpgjiaaW.PrintWords Go.Proofs.YtcnkmdonbpgjiaaW.PrintLast Go.Proofs.YtcnkmdonbpgjiaaW.PrintMore
attribute [local go_sem] max2_int min2_int max_two min_two max_three min_three max_four min_four   -- for this text's walks alone
set_option linter.unusedVariables false
set_option linter.unusedSimpArgs false
theorem runs_one {w : World} {ys : List S32} {news : List Value} (h : Reps (k32.K w) 3 ys news) : ∀ u ∈ news, u.oneCell' = true := by
  intro u hu
  obtain ⟨q, hq, rfl⟩ := List.mem_iff_getElem.1 hu
  have hql : q / 3 < ys.length := by
    rw [Nat.div_lt_iff_lt_mul (by omega)]
    rw [← h.1]
    exact hq
  have hc := h.2 (q / 3) _ (List.getElem?_eq_getElem hql)
  refine k32.K_one hc _ ?_
  rw [List.mem_iff_getElem?]
  refine ⟨q % 3, ?_⟩
  rw [List.getElem?_take, if_pos (Nat.mod_lt _ (by omega)), List.getElem?_drop, Nat.mul_comm, Nat.div_add_mod, List.getElem?_eq_getElem hq]
theorem join_append {ops : Array Oper} {rest : List Oper} {o : Oper} {a : Act} {Q : Exit → Act → World → Prop} {w : World} (hg : o.guard = none) (s x : Operand) (hop : o.op = Op.call { callee := Callee.builtin Builtin.append, args := #[s, x], argTypes := #[22, 22] })
    (A0 : Option Addr) (la : List S32) (hs : a.eval s = .slice A0 la.length la.length) (h0 : Kd.C k32 w A0 la.length la) (A1 : Option Addr) (c1 : Nat) (lb : List S32) (hx : a.eval x = .slice A1 lb.length c1) (h1 : Kd.C k32 w A1 lb.length lb) (hl : la.length + lb.length ≤ 1000) (m : List S32) (hm : la ++ lb = m)
    (hK : ∀ A c w', m.length ≤ c → Kd.C k32 w' A m.length m → Below w.heap.size w w' → wpList Try.prog ops Q rest (a.put o.dst (.slice A m.length c)) w') : wpList Try.prog ops Q (o :: rest) a w := by
  subst hm
  obtain ⟨i0, hi, hzz⟩ := Option.map_eq_some_iff.1 info32
  simp only [Prod.mk.injEq] at hzz
  obtain ⟨hz0, hz1, hz2⟩ := hzz
  by_cases hb : lb.length = 0
  · obtain rfl : lb = [] := List.eq_nil_of_length_eq_zero hb
    have hK2 := hK A0 la.length w (by simp) (by simpa using h0) (Below.refl _ _)
    have hrun : (Builtin.append_ #[22, 22] o.type #[.slice A0 la.length la.length, .slice A1 ([] : List S32).length c1]).run Try.prog w = .ok (.slice A0 la.length la.length) w := by
      rcases A0 with _ | a0 <;> rcases A1 with _ | a1 <;> simp [Builtin.append_, run_underlying Try.underlying22, sizeOf, typeInfo, hi, Builtin.lenOf, Builtin.firstCells, storeCells, loadCells, loadCellsFrom]
    refine wpList_plain hg fun K hK' => ?_
    unfold Oper.wp
    simp only [List.append_nil] at hK2
    simp [execOp, hop, resolve, invoke, builtin, hs, hx, hrun, Result.andThen]
    simp at hrun
    rw [hrun]
    exact hK' _ _ hK2
  · obtain ⟨a1, rfl, _⟩ := h1.2.2 (by omega)
    obtain ⟨news, hnr, hnc⟩ := ReadsRow.inner_ h1
    obtain ⟨olds, hor, hoc⟩ : ∃ olds, Reps (k32.K w) 3 la olds ∧ ∀ b, A0 = some b → ∀ j u, olds[j]? = some u → w.cell? (b.add j) = some u := by
      by_cases ha : la.length = 0
      · obtain rfl : la = [] := List.eq_nil_of_length_eq_zero ha
        exact ⟨[], Reps.none _ _, fun b _ j u h => by simp at h⟩
      · obtain ⟨a0, rfl, _⟩ := h0.2.2 (by omega)
        obtain ⟨olds, h2, h3⟩ := ReadsRow.inner_ h0
        exact ⟨olds, h2, fun b hb j u h => by cases hb; exact h3 j u h⟩
    have hnone : A0 = none → la.length = 0 ∧ la.length = 0 := fun e => by
      by_cases ha : la.length = 0
      · exact ⟨ha, ha⟩
      · obtain ⟨a0, h, _⟩ := h0.2.2 (by omega); rw [e] at h; cases h
    refine wpList_append_grows w hg s x 22 hop 32 i0 (.agg #[(.int .i64 0), (.int .i64 0), (.bool false)]) 3 24 Try.underlying22 hi hz0 hz1 hz2 rfl (by omega) A0 la.length la.length olds hs hnone hor.1 hoc a1 lb.length c1 news hx hnr.1 hnc (runs_one hnr) (by omega) (by simp only [maxLen]; omega) (by omega) ?_
    intro v' w' hown hgr
    have hR : Kd.R k32 32 w' w.heap.size (fun _ => True) v' (la ++ lb) := ⟨fun _ _ => trivial, olds ++ news, by rw [List.length_append]; exact hown, Kd.reps_append (hor.imp_ (fun p c hp => by obtain rfl := k32_open hp; exact k32_mkM _ _ _ _)) (hnr.imp_ (fun p c hp => by obtain rfl := k32_open hp; exact k32_mkM _ _ _ _))⟩
    obtain ⟨A, c, rfl, hc, hC⟩ := Kd.R_reads hR
    exact hK A c w' hc hC ⟨hgr.os, hgr.tape, hgr.output, hgr.size, fun k hk => hgr.block k hk (by simp)⟩
def joinOf13 (a b : List S32) : List S32 × Int := if check13 a = 0 then (if check13 b = 0 then (if tot13 a + tot13 b > 17179869184 then ([], 21) else if (nrm (sem a ++ sem b)).length > 256 then ([], 8) else (nrm (sem a ++ sem b), 0)) else ([], check13 b)) else ([], check13 a)
def iso_Join.f (l0 l1 : List S32) : Option (List S32 × Int) := some (joinOf13 l0 l1)
theorem join_fold (a b : List S32) (h0 : check13 a = 0) (h1 : check13 b = 0) : ([] ++ pieces (a ++ b) 0 0 (tot13 (a ++ b))).foldl addOf [] = nrm (sem a ++ sem b) := by
  have hp : ∀ r ∈ a ++ b, 1 ≤ r.f1 := fun r hr => by
    rcases List.mem_append.mp hr with hr | hr
    · exact (fit_of ((check13_zero h0).2.1 r hr)).2.2.1
    · exact (fit_of ((check13_zero h1).2.1 r hr)).2.2.1
  have ht := sem_len (a ++ b) (fun r hr => by have := hp r hr; omega)
  rw [List.nil_append, addAll _ (pieces_pos _ _ _ _), sem_pieces _ 0 0 _ hp, ← ht, Int.sub_zero, Int.sub_zero]
  rw [← sem_append, show ((sem (a ++ b)).length : Int).toNat = (sem (a ++ b)).length by omega, List.take_length]
  rfl
theorem done_many (g : Nat) (ps : List S32) (w : World) (hI : BInv g ps w) (hl : (ps.foldl addOf []).length ≤ 1000000) (hm : (ps.foldl addOf []).length > 256) :
    Calls Try.prog 50 #[.pointer (some ⟨g, 0, none⟩)] w fun e w' => e = .returned (.tuple #[.slice none 0 0, .int .i64 8]) ∧ w' = w := by
  obtain ⟨_, v, hB⟩ := hI
  have := done_calls g v _ w hB hl
  rw [if_pos hm] at this
  exact this
set_option maxRecDepth 100000 in
set_option maxHeartbeats 16000000 in
theorem join_far (a b : List S32) (A0 : Option Addr) (c0 : Nat) (A1 : Option Addr) (c1 : Nat) (w : World) (hr0 : Kd.C k32 w A0 a.length a) (hc0 : a.length ≤ c0) (hr1 : Kd.C k32 w A1 b.length b) (hc1 : b.length ≤ c1) (h0 : check13 a = 0) (h1 : check13 b = 0) :
    Calls Try.prog 38 #[.slice A0 a.length c0, .slice A1 b.length c1] w fun e w' => ∃ v, e = .returned (.tuple #[v, .int .i64 (joinOf13 a b).2]) ∧ Kd.R k32 32 w' w.heap.size (fun _ => True) v (joinOf13 a b).1 ∧ Below w.heap.size w w' := by
  have HR0 := Aside0.mk hr0
  have HC0 := Aside0.mk hc0
  have HR1 := Aside0.mk hr1
  have HC1 := Aside0.mk hc1
  have hcc : decide (a.length ≤ c0) = true := by simpa using hc0
  clear hr0 hr1 hc1
  obtain ⟨k1, hk1⟩ := (icheck_ends a).get
  obtain ⟨k2, hk2⟩ := (icheck_ends b).get
  unfold joinOf13
  obtain ⟨hla, hga, hta⟩ := check13_zero h0
  obtain ⟨hlb, hgb, htb⟩ := check13_zero h1
  have hga2 : ∀ r ∈ a ++ b, ¬ badR r := fun r hr => by
    rcases List.mem_append.mp hr with hr | hr
    · exact hga r hr
    · exact hgb r hr
  have hfit : ∀ r ∈ a ++ b, fitR r := fun r hr => fit_of (hga2 r hr)
  have hlen : (a ++ b).length ≤ 512 := by rw [List.length_append]; omega
  obtain ⟨k3, hk3⟩ := (ilength_ends (a ++ b) (by omega) (fun r hr => by have := hfit r hr; unfold fitR at this; omega)).get
  have HK3 := Aside0.mk hk3
  have HJF := Aside0.mk (join_fold a b h0 h1)
  have hmil : (([] ++ pieces (a ++ b) 0 0 (tot13 (a ++ b))).foldl addOf []).length ≤ 1000000 := by
    have := addAll_len ([] ++ pieces (a ++ b) 0 0 (tot13 (a ++ b))) []
    have := pieces_len (a ++ b) 0 0 (tot13 (a ++ b))
    simp only [List.nil_append, List.length_nil] at *
    omega
  have HMIL := Aside0.mk hmil
  rw [h0] at hk1
  rw [h1] at hk2
  have HK1 := Aside0.mk hk1
  have HK2 := Aside0.mk hk2
  have HLA := Aside0.mk hla
  have HLB := Aside0.mk hlb
  have HLN := Aside0.mk hlen
  have HG := Aside0.mk hga2
  have HFI := Aside0.mk (show ∀ r ∈ a ++ b, 0 ≤ r.f0 ∧ r.f0 ≤ 17179869184 ∧ 1 ≤ r.f1 ∧ r.f1 ≤ 17179869184 from hfit)
  have htn : 0 ≤ tot13 a + tot13 b := by have := tot_nonneg h0; have := tot_nonneg h1; omega
  have hT := Aside0.mk (show 0 ≤ tot13 (a ++ b) ∧ tot13 (a ++ b) ≤ 34359738368 by rw [tot13_append]; omega)
  rw [if_pos h0, if_pos h1, ← tot13_append]
  clear hk1 hk2 hk3 h0 h1 hla hga hta hlb hgb htb hfit hga2 hlen hmil htn
  generalize tot13 (a ++ b) = T at *
  have HAB := Aside0.mk (rfl : a ++ b = a ++ b)
  obtain ⟨m, hm⟩ : ∃ m, a ++ b = m := ⟨_, rfl⟩
  rw [hm] at HK3 HJF HMIL HLN HG HFI
  replace HAB := Aside0.mk hm
  clear hm
  obtain ⟨P, hP⟩ : ∃ P, (if T > 17179869184 then (([], 21) : List S32 × Int) else if (nrm (sem a ++ sem b)).length > 256 then ([], 8) else (nrm (sem a ++ sem b), 0)) = P := ⟨_, rfl⟩
  rw [hP]
  have HP := Aside0.mk hP.symm
  clear hP
  go_enter Try.func38, Try.ntmps38
  go_wp2_with (first | (go_at_call 14; (with_reducible refine (iso_Check.calls k1 A0 c0 a 0 _ HR0.out HC0.out HK1.out).mono ?_); rintro e w1 ⟨rfl, hb⟩; have HB1 := Aside0.mk hb; have HR0a := Aside0.mk (Kd.C_below HR0.out hb); have HR1a := Aside0.mk (Kd.C_below HR1.out hb); clear hb) | (go_at_call 14; (with_reducible refine (iso_Check.calls k2 A1 c1 b 0 _ HR1a.out HC1.out HK2.out).mono ?_); rintro e w2 ⟨rfl, hb⟩; have HB2 := Aside0.mk (below_then HB1.out HB1.out.size hb); have HR0b := Aside0.mk (Kd.C_below HR0a.out hb); have HR1b := Aside0.mk (Kd.C_below HR1a.out hb); clear hb) | (at_builtin; refine join_append rfl (.tmp 25) (.tmp 26) rfl A0 a rfl HR0b.out A1 c1 b rfl HR1b.out (by have := HLA.out; have := HLB.out; omega) m HAB.out ?_; intro A c w3 hc3 hr3 hb3; have HB3 := Aside0.mk (below_then HB2.out HB2.out.size hb3); have HR3 := Aside0.mk hr3; have HC3 := Aside0.mk hc3; clear hc3 hr3 hb3))
  by_cases hT1 : T > 17179869184
  · have hTb : decide ((17179869184 : Int) < T) = true := decide_eq_true hT1
    have e := HP.out.trans (if_pos hT1)
    go_wp2_with (go_at_call 43; (with_reducible refine (iso_length.calls k3 A c m T _ HR3.out HC3.out HK3.out).mono ?_); rintro e w4 ⟨rfl, hb⟩; have HB4 := Aside0.mk (below_then HB3.out HB3.out.size hb); have HR4 := Aside0.mk (Kd.C_below HR3.out hb); clear hb)
    refine bodyPost_ret (results_tmp2 rfl _ _ _) rfl ?_
    exact ⟨.slice none 0 0, by rw [e]; rfl, by rw [e]; exact Kd.R_nil _ _ _ _ _, HB4.out⟩
  · have hTb : decide ((17179869184 : Int) < T) = false := decide_eq_false hT1
    by_cases hL : (([] ++ pieces m 0 0 T).foldl addOf []).length > 256
    · have e := HP.out.trans ((if_neg hT1).trans (if_pos (by rw [← HJF.out]; exact hL)))
      go_wp2_with (first | (go_at_call 43; (with_reducible refine (iso_length.calls k3 A c m T _ HR3.out HC3.out HK3.out).mono ?_); rintro e w4 ⟨rfl, hb⟩; have HB4 := Aside0.mk (below_then HB3.out HB3.out.size hb); have HR4 := Aside0.mk (Kd.C_below HR3.out hb); clear hb) | (go_at_call 43; (with_reducible refine (iso_length.calls k3 A c m T _ (Kd.C_alloc HR4.out _) HC3.out HK3.out).mono ?_); rintro e w5 ⟨rfl, hb⟩; have HB5 := Aside0.mk (((Below.refl w4.heap.size w4).alloc (Nat.le_refl _) (.cells #[.slice none 0 0] 57)).trans (hb.mono (by simp))); have HI5 := Aside0.mk (BInv.mono _ _ _ (BInv.new w4) hb).1; clear hb) | (go_at_call 46; (refine (each_add w4.heap.size 65536 (BInv w4.heap.size) okPce (BDirty w4.heap.size) BInv.dirty BInv.mono BInv.step A c m 0 T [] w4 w5 HR4.out HC3.out (Nat.le_refl _) HB5.out HI5.out (by have := HLN.out; simp only [List.length_nil]; omega) (by have := HLN.out; omega) HFI.out (by omega) (by have := hT.out; omega) (fun r hr x n h1 h2 h3 => okPce_part (HG.out r hr) x n h1 h2 h3)).mono ?_); rintro e w6 ⟨rfl, hi, hb⟩; have HI6 := Aside0.mk hi; have HB6 := Aside0.mk (HB4.out.trans (hb.mono HB4.out.size)); clear hi hb) | (go_at_call 50; (with_reducible refine (done_many w4.heap.size _ w6 HI6.out HMIL.out hL).mono ?_); rintro e w7 ⟨rfl, rfl⟩))
      refine bodyPost_ret (results_tmp2 rfl _ _ _) rfl ?_
      exact ⟨.slice none 0 0, by rw [e]; rfl, by rw [e]; exact Kd.R_nil _ _ _ _ _, HB6.out⟩
    · have e := HP.out.trans ((if_neg hT1).trans (if_neg (by rw [← HJF.out]; exact hL)))
      go_wp2_with (first | (go_at_call 43; (with_reducible refine (iso_length.calls k3 A c m T _ HR3.out HC3.out HK3.out).mono ?_); rintro e w4 ⟨rfl, hb⟩; have HB4 := Aside0.mk (below_then HB3.out HB3.out.size hb); have HR4 := Aside0.mk (Kd.C_below HR3.out hb); clear hb) | (go_at_call 43; (with_reducible refine (iso_length.calls k3 A c m T _ (Kd.C_alloc HR4.out _) HC3.out HK3.out).mono ?_); rintro e w5 ⟨rfl, hb⟩; have HB5 := Aside0.mk (((Below.refl w4.heap.size w4).alloc (Nat.le_refl _) (.cells #[.slice none 0 0] 57)).trans (hb.mono (by simp))); have HI5 := Aside0.mk (BInv.mono _ _ _ (BInv.new w4) hb).1; clear hb) | (go_at_call 46; (refine (each_add w4.heap.size 65536 (BInv w4.heap.size) okPce (BDirty w4.heap.size) BInv.dirty BInv.mono BInv.step A c m 0 T [] w4 w5 HR4.out HC3.out (Nat.le_refl _) HB5.out HI5.out (by have := HLN.out; simp only [List.length_nil]; omega) (by have := HLN.out; omega) HFI.out (by omega) (by have := hT.out; omega) (fun r hr x n h1 h2 h3 => okPce_part (HG.out r hr) x n h1 h2 h3)).mono ?_); rintro e w6 ⟨rfl, hi, hb⟩; have HI6 := Aside0.mk hi; have HB6 := Aside0.mk (HB4.out.trans (hb.mono HB4.out.size)); clear hi hb) | (go_at_call 50; (with_reducible refine (done_few w4.heap.size _ w6 HI6.out (by omega)).mono ?_); rintro e w7 ⟨v, rfl, ho, rfl⟩; have HO := Aside0.mk ho; clear ho))
      refine bodyPost_ret (results_tmp2 rfl _ _ _) rfl ?_
      exact ⟨v, by rw [e]; rfl, by rw [e, ← HJF.out]; exact Kd.R_lower HO.out HB4.out.size, HB6.out⟩
set_option maxRecDepth 100000 in
set_option maxHeartbeats 8000000 in
theorem join_main (a b : List S32) (A0 : Option Addr) (c0 : Nat) (A1 : Option Addr) (c1 : Nat) (w : World) (hr0 : Kd.C k32 w A0 a.length a) (hc0 : a.length ≤ c0) (hr1 : Kd.C k32 w A1 b.length b) (hc1 : b.length ≤ c1) :
    Calls Try.prog 38 #[.slice A0 a.length c0, .slice A1 b.length c1] w fun e w' => ∃ v, e = .returned (.tuple #[v, .int .i64 (joinOf13 a b).2]) ∧ Kd.R k32 32 w' w.heap.size (fun _ => True) v (joinOf13 a b).1 ∧ Below w.heap.size w w' := by
  by_cases h0 : check13 a = 0
  · by_cases h1 : check13 b = 0
    · exact join_far a b A0 c0 A1 c1 w hr0 hc0 hr1 hc1 h0 h1
    · have HR0 := Aside0.mk hr0
      have HC0 := Aside0.mk hc0
      have HR1 := Aside0.mk hr1
      have HC1 := Aside0.mk hc1
      obtain ⟨k1, hk1⟩ := (icheck_ends a).get
      obtain ⟨k2, hk2⟩ := (icheck_ends b).get
      unfold joinOf13
      rw [h0] at hk1
      have HK1 := Aside0.mk hk1
      have HK2 := Aside0.mk hk2
      have hne : (check13 b == 0) = false := by simpa using h1
      have hne1 : (check13 b != 0) = true := by simpa using h1
      rw [if_pos h0, if_neg h1]
      clear hk1 hk2 h0 h1 hr0 hc0 hr1 hc1
      generalize check13 b = q at *
      go_enter Try.func38, Try.ntmps38
      go_wp2_with (first | (go_at_call 14; (with_reducible refine (iso_Check.calls k1 A0 c0 a 0 _ HR0.out HC0.out HK1.out).mono ?_); rintro e w1 ⟨rfl, hb⟩; have HB1 := Aside0.mk hb; have HR1a := Aside0.mk (Kd.C_below HR1.out hb); clear hb) | (go_at_call 14; (with_reducible refine (iso_Check.calls k2 A1 c1 b q _ HR1a.out HC1.out HK2.out).mono ?_); rintro e w2 ⟨rfl, hb⟩; have HB2 := Aside0.mk (below_then HB1.out HB1.out.size hb); clear hb))
      refine bodyPost_ret (results_tmp2 rfl _ _ _) rfl ?_
      exact ⟨_, rfl, Kd.R_nil _ _ _ _ _, HB2.out⟩
  · have HR0 := Aside0.mk hr0
    have HC0 := Aside0.mk hc0
    obtain ⟨k1, hk1⟩ := (icheck_ends a).get
    unfold joinOf13
    have HK1 := Aside0.mk hk1
    have hne : (check13 a == 0) = false := by simpa using h0
    have hne1 : (check13 a != 0) = true := by simpa using h0
    rw [if_neg h0]
    clear hk1 h0 hr0 hc0 hr1 hc1
    generalize check13 a = q at *
    go_enter Try.func38, Try.ntmps38
    go_wp2_with (go_at_call 14; (with_reducible refine (iso_Check.calls k1 A0 c0 a q _ HR0.out HC0.out HK1.out).mono ?_); rintro e w1 ⟨rfl, hb⟩; have HB1 := Aside0.mk hb; clear hb)
    refine bodyPost_ret (results_tmp2 rfl _ _ _) rfl ?_
    exact ⟨_, rfl, Kd.R_nil _ _ _ _ _, HB1.out⟩
theorem iso_Join.calls (A0 : Option Addr) (c0 : Nat) (l0 : List (S32)) (A1 : Option Addr) (c1 : Nat) (l1 : List (S32)) (r1 : List (S32)) (r2 : Int) (w : World) (hr0 : Kd.C k32 w A0 l0.length l0) (hc0 : l0.length ≤ c0) (hr1 : Kd.C k32 w A1 l1.length l1) (hc1 : l1.length ≤ c1) (h : iso_Join.f l0 l1 = some (r1, r2)) :
    Calls Try.prog 38 #[.slice A0 l0.length c0, .slice A1 l1.length c1] w fun e w' => ∃ v0_ : Value, e = .returned (.tuple #[v0_, .int .i64 r2]) ∧ Kd.R k32 32 w' w.heap.size (fun _ => True) v0_ r1 ∧ Below w.heap.size w w' := by
  have e : joinOf13 l0 l1 = (r1, r2) := Option.some.inj h
  have := join_main l0 l1 A0 c0 A1 c1 w hr0 hc0 hr1 hc1
  rw [e] at this
  exact this
end Go.Proofs.Ytcnkmdonbpgjiaa.G

namespace Go.Proofs.Ytcnkmdonbpgjiaa.G
open Go.RowKit Go.Proofs.YtcnkmdonbpgjiaaW.PrintWords Go.Proofs.YtcnkmdonbpgjiaaW.PrintLast Go.Proofs.YtcnkmdonbpgjiaaW.PrintMore
attribute [local go_sem] max2_int min2_int max_two min_two max_three min_three max_four min_four   -- for this text's walks alone
set_option linter.unusedVariables false
set_option linter.unusedSimpArgs false

mutual
def papermilllaw13_IsoHalves.j0 : Nat → List (S32) → Int → Bool → Option (Bool)
 | 0, _, _, _ => none
 | k + 1, x0, x1, x21 => if x21 = true then ((papermilllaw13_awake.f).bind fun t12003 => (some t12003)) else ((iso_Length.f k x0).bind fun bt12004 => (if bt12004.2 = 0 then (if bt12004.1 < 0 then (papermilllaw13_IsoHalves.j1 k x0 x1 bt12004.1 true) else (papermilllaw13_IsoHalves.j1 k x0 x1 bt12004.1 (decide (bt12004.1 > 17179869184)))) else (papermilllaw13_IsoHalves.j1 k x0 x1 bt12004.1 true)))
def papermilllaw13_IsoHalves.j1 : Nat → List (S32) → Int → Int → Bool → Option (Bool)
 | 0, _, _, _, _ => none
 | k + 1, x0, x1, x5, x37 => if x37 = true then (some false) else (if x1 < 0 then (papermilllaw13_IsoHalves.j2 k x0 x1 x5 true) else (papermilllaw13_IsoHalves.j2 k x0 x1 x5 (decide (x1 > x5))))
def papermilllaw13_IsoHalves.j2 : Nat → List (S32) → Int → Int → Bool → Option (Bool)
 | 0, _, _, _, _ => none
 | k + 1, x0, x1, x5, x44 => if x44 = true then ((papermilllaw13_awake.f).bind fun t12006 => (some t12006)) else ((iso_Part.f x0 0 x1).bind fun bt12007 => ((iso_Part.f x0 x1 x5).bind fun bt12011 => ((iso_Join.f bt12007.1 bt12011.1).bind fun bt12015 => ((iso_Norm.f x0).bind fun bt12019 => (if bt12007.2 = 0 then (if bt12011.2 = 0 then (if bt12015.2 = 0 then (if bt12019.2 = 0 then ((papermillref13_Same.f k bt12015.1 bt12019.1).bind fun t12023 => (if t12023 = true then ((papermilllaw13_awake.f).bind fun t12024 => (some t12024)) else (some false))) else (some false)) else (some false)) else (some false)) else (some false))))))
end
def papermilllaw13_IsoHalves.f (k : Nat) (l0 : List (S32)) (a1 : Int) : Option (Bool) := (papermilllaw13_great.f l0).bind fun t12001 => (if t12001 = true then (papermilllaw13_IsoHalves.j0 k l0 a1 true) else ((iso_Check.f k l0).bind fun t12002 => (papermilllaw13_IsoHalves.j0 k l0 a1 (t12002 != 0))))
theorem papermilllaw13_IsoHalves.mono_l : ∀ k, (∀ y0 y1 y2, LeO (papermilllaw13_IsoHalves.j0 k y0 y1 y2) (papermilllaw13_IsoHalves.j0 (k + 1) y0 y1 y2)) ∧ (∀ y0 y1 y2 y3, LeO (papermilllaw13_IsoHalves.j1 k y0 y1 y2 y3) (papermilllaw13_IsoHalves.j1 (k + 1) y0 y1 y2 y3)) ∧ (∀ y0 y1 y2 y3, LeO (papermilllaw13_IsoHalves.j2 k y0 y1 y2 y3) (papermilllaw13_IsoHalves.j2 (k + 1) y0 y1 y2 y3))
 | 0 => ⟨fun _ _ _ r h => by simp [papermilllaw13_IsoHalves.j0] at h, fun _ _ _ _ r h => by simp [papermilllaw13_IsoHalves.j1] at h, fun _ _ _ _ r h => by simp [papermilllaw13_IsoHalves.j2] at h⟩
 | k + 1 => by
  obtain ⟨ih0, ih1, ih2⟩ := papermilllaw13_IsoHalves.mono_l k
  refine ⟨?_, ?_, ?_⟩
  ·intro y0 y1 y2
   unfold papermilllaw13_IsoHalves.j0
   repeat' first
   | (with_reducible exact ih0 _ _ _)
   | (with_reducible exact ih1 _ _ _ _)
   | (with_reducible exact ih2 _ _ _ _)
   | (with_reducible exact iso_Check.mono _ _)
   | (with_reducible exact iso_Length.mono _ _)
   | (with_reducible exact papermillref13_Same.mono _ _ _)
   | (with_reducible exact LeO.refl _)
   | (with_reducible exact LeO.none _)
   | (with_reducible refine LeO.ite ?_ ?_)
   | (with_reducible refine LeO.bind ?_ (fun _ => ?_))
   | exact ih0 _ _ _
   | exact ih1 _ _ _ _
   | exact ih2 _ _ _ _
   | exact iso_Check.mono _ _
   | exact iso_Length.mono _ _
   | exact papermillref13_Same.mono _ _ _
   | exact LeO.none _
   | refine LeO.ite ?_ ?_
   | refine LeO.bind ?_ (fun _ => ?_)
  ·intro y0 y1 y2 y3
   unfold papermilllaw13_IsoHalves.j1
   repeat' first
   | (with_reducible exact ih0 _ _ _)
   | (with_reducible exact ih1 _ _ _ _)
   | (with_reducible exact ih2 _ _ _ _)
   | (with_reducible exact iso_Check.mono _ _)
   | (with_reducible exact iso_Length.mono _ _)
   | (with_reducible exact papermillref13_Same.mono _ _ _)
   | (with_reducible exact LeO.refl _)
   | (with_reducible exact LeO.none _)
   | (with_reducible refine LeO.ite ?_ ?_)
   | (with_reducible refine LeO.bind ?_ (fun _ => ?_))
   | exact ih0 _ _ _
   | exact ih1 _ _ _ _
   | exact ih2 _ _ _ _
   | exact iso_Check.mono _ _
   | exact iso_Length.mono _ _
   | exact papermillref13_Same.mono _ _ _
   | exact LeO.none _
   | refine LeO.ite ?_ ?_
   | refine LeO.bind ?_ (fun _ => ?_)
  ·intro y0 y1 y2 y3
   unfold papermilllaw13_IsoHalves.j2
   repeat' first
   | (with_reducible exact ih0 _ _ _)
   | (with_reducible exact ih1 _ _ _ _)
   | (with_reducible exact ih2 _ _ _ _)
   | (with_reducible exact iso_Check.mono _ _)
   | (with_reducible exact iso_Length.mono _ _)
   | (with_reducible exact papermillref13_Same.mono _ _ _)
   | (with_reducible exact LeO.refl _)
   | (with_reducible exact LeO.none _)
   | (with_reducible refine LeO.ite ?_ ?_)
   | (with_reducible refine LeO.bind ?_ (fun _ => ?_))
   | exact ih0 _ _ _
   | exact ih1 _ _ _ _
   | exact ih2 _ _ _ _
   | exact iso_Check.mono _ _
   | exact iso_Length.mono _ _
   | exact papermillref13_Same.mono _ _ _
   | exact LeO.none _
   | refine LeO.ite ?_ ?_
   | refine LeO.bind ?_ (fun _ => ?_)
theorem papermilllaw13_IsoHalves.mono : ∀ a0 a1 k, LeO (papermilllaw13_IsoHalves.f k a0 a1) (papermilllaw13_IsoHalves.f (k + 1) a0 a1) := by
 intro a0 a1 k
 obtain ⟨ih0, ih1, ih2⟩ := papermilllaw13_IsoHalves.mono_l k
 unfold papermilllaw13_IsoHalves.f
 repeat' first
   | (with_reducible exact ih0 _ _ _)
   | (with_reducible exact ih1 _ _ _ _)
   | (with_reducible exact ih2 _ _ _ _)
   | (with_reducible exact iso_Check.mono _ _)
   | (with_reducible exact iso_Length.mono _ _)
   | (with_reducible exact papermillref13_Same.mono _ _ _)
   | (with_reducible exact LeO.refl _)
   | (with_reducible exact LeO.none _)
   | (with_reducible refine LeO.ite ?_ ?_)
   | (with_reducible refine LeO.bind ?_ (fun _ => ?_))
   | exact ih0 _ _ _
   | exact ih1 _ _ _ _
   | exact ih2 _ _ _ _
   | exact iso_Check.mono _ _
   | exact iso_Length.mono _ _
   | exact papermillref13_Same.mono _ _ _
   | exact LeO.none _
   | refine LeO.ite ?_ ?_
   | refine LeO.bind ?_ (fun _ => ?_)
set_option maxHeartbeats 8000000 in
set_option maxRecDepth 100000 in
theorem papermilllaw13_IsoHalves.calls (k : Nat) (A0 : Option Addr) (c0 : Nat) (l0 : List (S32)) (a1 : Int) (r : Bool) (w : World) (hr0 : Kd.C k32 w A0 l0.length l0) (hc0 : l0.length ≤ c0) (h : papermilllaw13_IsoHalves.f k l0 a1 = some r) :
  Calls Try.prog 11 #[.slice A0 l0.length c0, .int .i64 a1] w fun e w' => e = .returned (.bool r) ∧ Below w.heap.size w w' := by
 have hu37 := Try.underlying37
 have HR0 := Aside0.mk hr0
 have HC0 := Aside0.mk hc0
 clear hr0 hc0
 have HB := Aside0.mk (Below.refl w.heap.size w)
 have H : ((papermilllaw13_great.f l0).bind fun t12001 => (if t12001 = true then (papermilllaw13_IsoHalves.j0 k l0 a1 true) else ((iso_Check.f k l0).bind fun t12002 => (papermilllaw13_IsoHalves.j0 k l0 a1 (t12002 != 0))))) = some r := h
 clear h
 have HC3 := Aside0.mk H
 clear H
 go_enter Try.func11, Try.ntmps11
 go_upto_region 1 with (fail)
 go_cut [21] (fun v21 wc => ∃ (kq : Nat) (x21_2 : Bool), v21 = .bool x21_2 ∧ Aside0 (papermilllaw13_IsoHalves.j0 kq l0 a1 x21_2 = some r) ∧ Aside0 (kq ≤ k) ∧ Aside0 (Below w.heap.size w wc))
 case first =>
  have H := HC3.out
  clear HC3
  replace H := Option.bind_eq_some_iff.mp H
  obtain ⟨t12001, A40, H⟩ := H
  replace H : (if t12001 = true then (papermilllaw13_IsoHalves.j0 k l0 a1 true) else ((iso_Check.f k l0).bind fun t12002 => (papermilllaw13_IsoHalves.j0 k l0 a1 (t12002 != 0)))) = some r := H
  have A4 := Aside0.mk A40
  clear A40
  by_cases c5 : t12001 = true
  ·subst c5
   have H1 : (papermilllaw13_IsoHalves.j0 k l0 a1 true) = some r := by rw [if_pos rfl] at H; exact H
   clear H
   have H := H1
   clear H1
   have H' := Aside0.mk H
   clear H
   go_wp2_with (first | ((with_reducible refine gate_callee (f := 12) rfl ?_); refine goesL_ (some 16) rfl rfl Try.func12 (by kernel_rfl) rfl #[.slice A0 l0.length c0] rfl (by (try simp only [List.map_toArray, List.map_cons, List.map_nil]); first | done | rfl | (simp only [List.length_drop, List.length_take]; rfl)) ?_; (with_reducible refine (papermilllaw13_great.calls _ _ l0 true _ ?side1 ?side2 A4.out).mono ?_); (case side1 => repeat (first | exact (Kd.C_below HR0.out HB.out) | (with_reducible refine Kd.C_alloc ?_ _) | (with_reducible refine Kd.C_drewN ?_ _) | (with_reducible refine Kd.C_drew ?_))); (case side2 => exact HC0.out); rintro e w' ⟨rfl, ⟨nd, rfl⟩⟩; refine ⟨_, rfl, ?_⟩))
   go_meet
   case rel => exact ⟨_, (true), (by first | rfl | (simp; done) | (simp [*]; done)), H', ⟨by first | omega | exact Nat.le_refl _⟩, ⟨by repeat (first | (with_reducible first | exact HB.out | apply below_alloc | apply pw_below_drewN | apply below_drew1) | exact HB.out)⟩⟩
  ·replace c5 := Bool.eq_false_iff.mpr c5
   subst c5
   have H1 : ((iso_Check.f k l0).bind fun t12002 => (papermilllaw13_IsoHalves.j0 k l0 a1 (t12002 != 0))) = some r := by rw [if_neg (show ¬ (false = true) by decide)] at H; first | exact H | simpa using H
   clear H
   have H := H1
   clear H1
   replace H := Option.bind_eq_some_iff.mp H
   obtain ⟨t12002, A60, H⟩ := H
   replace H : (papermilllaw13_IsoHalves.j0 k l0 a1 (t12002 != 0)) = some r := H
   have A6 := Aside0.mk A60
   clear A60
   have H' := Aside0.mk H
   clear H
   go_wp2_with (first | ((with_reducible refine gate_callee (f := 12) rfl ?_); refine goesL_ (some 16) rfl rfl Try.func12 (by kernel_rfl) rfl #[.slice A0 l0.length c0] rfl (by (try simp only [List.map_toArray, List.map_cons, List.map_nil]); first | done | rfl | (simp only [List.length_drop, List.length_take]; rfl)) ?_; (with_reducible refine (papermilllaw13_great.calls _ _ l0 false _ ?side1 ?side2 A4.out).mono ?_); (case side1 => repeat (first | exact (Kd.C_below HR0.out HB.out) | (with_reducible refine Kd.C_alloc ?_ _) | (with_reducible refine Kd.C_drewN ?_ _) | (with_reducible refine Kd.C_drew ?_))); (case side2 => exact HC0.out); rintro e w' ⟨rfl, ⟨nd, rfl⟩⟩; refine ⟨_, rfl, ?_⟩) | (go_at_call 14; (with_reducible refine (iso_Check.calls k _ _ l0 t12002 _ ?side1 ?side2 A6.out).mono ?_); (case side1 => repeat (first | exact (Kd.C_below HR0.out (by repeat (first | (with_reducible first | exact HB.out | apply below_alloc | apply pw_below_drewN | apply below_drew1) | exact HB.out))) | (with_reducible refine Kd.C_alloc ?_ _) | (with_reducible refine Kd.C_drewN ?_ _) | (with_reducible refine Kd.C_drew ?_))); (case side2 => exact HC0.out); rintro e w7 ⟨rfl, hb⟩; have n0_ := Aside0.mk (below_step (by repeat (first | (with_reducible first | exact HB.out | apply below_alloc | apply pw_below_drewN | apply below_drew1) | exact HB.out)) hb); clear HB; have HB := n0_; clear n0_; (try clear hb); (try clear hb2); (try clear hk); (try clear hi)))
   go_meet
   case rel => exact ⟨_, ((t12002 != 0)), (by first | rfl | (simp; done) | (simp [*]; done)), H', ⟨by first | omega | exact Nat.le_refl _⟩, ⟨by repeat (first | (with_reducible first | exact HB.out | apply below_alloc | apply pw_below_drewN | apply below_drew1) | exact HB.out)⟩⟩
 case rest =>
  clear HC3
  try clear c1
  try clear p2
  try clear c5
  obtain ⟨kq, x21_2, rfl, HA, HJ2, HB⟩ := hcut
  cases kq with
  | zero => exact absurd HA.out (by simp [papermilllaw13_IsoHalves.j0])
  | succ kj2 =>
   have H := HA.out
   clear HA
   simp only [papermilllaw13_IsoHalves.j0] at H
   by_cases c8 : x21_2 = true
   ·subst c8
    have H1 : ((papermilllaw13_awake.f).bind fun t12003 => (some t12003)) = some r := by rw [if_pos rfl] at H; exact H
    clear H
    have H := H1
    clear H1
    replace H := Option.bind_eq_some_iff.mp H
    obtain ⟨t12003, A90, H⟩ := H
    replace H : (some t12003) = some r := H
    have A9 := Aside0.mk A90
    clear A90
    obtain rfl := Option.some.inj H
    go_wp2_with (first | ((with_reducible refine gate_callee (f := 13) rfl ?_); refine goesL_ (some 22) rfl rfl Try.func13 (by kernel_rfl) rfl #[] rfl (by (try simp only [List.map_toArray, List.map_cons, List.map_nil]); first | done | rfl | (simp only [List.length_drop, List.length_take]; rfl)) ?_; (with_reducible refine (papermilllaw13_awake.calls  t12003 _ A9.out).mono ?_); rintro e w10 ⟨rfl, hb⟩; refine ⟨_, rfl, ?_⟩; have n0_ := Aside0.mk (below_step (by repeat (first | (with_reducible first | exact HB.out | apply below_alloc | apply pw_below_drewN | apply below_drew1) | exact HB.out)) hb); clear HB; have HB := n0_; clear n0_; (try clear hb); (try clear hb2); (try clear hk); (try clear hi)))
    go_ret
    exact ⟨by first | rfl | (simp [errW_none, errW_some] <;> rfl) | (simp [*, errW_none, errW_some] <;> rfl), by repeat (first | (with_reducible first | exact HB.out | apply below_alloc | apply pw_below_drewN | apply below_drew1) | exact HB.out)⟩
   ·replace c8 := Bool.eq_false_iff.mpr c8
    subst c8
    have H1 : ((iso_Length.f kj2 l0).bind fun bt12004 => (if bt12004.2 = 0 then (if bt12004.1 < 0 then (papermilllaw13_IsoHalves.j1 kj2 l0 a1 bt12004.1 true) else (papermilllaw13_IsoHalves.j1 kj2 l0 a1 bt12004.1 (decide (bt12004.1 > 17179869184)))) else (papermilllaw13_IsoHalves.j1 kj2 l0 a1 bt12004.1 true))) = some r := by rw [if_neg (show ¬ (false = true) by decide)] at H; first | exact H | simpa using H
    clear H
    have H := H1
    clear H1
    replace H := Option.bind_eq_some_iff.mp H
    obtain ⟨⟨t12004, t12005⟩, A110, H⟩ := H
    replace H : (if t12005 = 0 then (if t12004 < 0 then (papermilllaw13_IsoHalves.j1 kj2 l0 a1 t12004 true) else (papermilllaw13_IsoHalves.j1 kj2 l0 a1 t12004 (decide (t12004 > 17179869184)))) else (papermilllaw13_IsoHalves.j1 kj2 l0 a1 t12004 true)) = some r := H
    have A11 := Aside0.mk A110
    clear A110
    have HC12 := Aside0.mk H
    clear H
    go_upto_region 4 with (first | ((with_reducible refine gate_callee (f := 24) rfl ?_); refine goesL_ (some 25) rfl rfl Try.func24 (by kernel_rfl) rfl #[.slice A0 l0.length c0] rfl (by (try simp only [List.map_toArray, List.map_cons, List.map_nil]); first | done | rfl | (simp only [List.length_drop, List.length_take]; rfl)) ?_; (with_reducible refine (iso_Length.calls kj2 _ _ l0 t12004 t12005 _ ?side1 ?side2 A11.out).mono ?_); (case side1 => repeat (first | exact (Kd.C_below HR0.out HB.out) | (with_reducible refine Kd.C_alloc ?_ _) | (with_reducible refine Kd.C_drewN ?_ _) | (with_reducible refine Kd.C_drew ?_))); (case side2 => exact HC0.out); rintro e w13 ⟨rfl, hb⟩; refine ⟨_, rfl, ?_⟩; have n0_ := Aside0.mk (below_step (by repeat (first | (with_reducible first | exact HB.out | apply below_alloc | apply pw_below_drewN | apply below_drew1) | exact HB.out)) hb); clear HB; have HB := n0_; clear n0_; (try clear hb); (try clear hb2); (try clear hk); (try clear hi)))
    (try simp only [Act.put, List.setIfInBounds_toArray, List.set_cons_zero, List.set_cons_succ])
    go_cut [37] (fun v37 wc => ∃ (kq : Nat) (x37_11 : Bool), v37 = .bool x37_11 ∧ Aside0 (papermilllaw13_IsoHalves.j1 kq l0 a1 t12004 x37_11 = some r) ∧ Aside0 (kq ≤ kj2) ∧ Aside0 (Below w.heap.size w wc))
    case first =>
     have H := HC12.out
     clear HC12
     by_cases c14 : t12005 = 0
     ·rw [if_pos c14] at H
      have c14b0 : (t12005 == 0) = true := beq_iff_eq.mpr c14
      have c14b1 : (t12005 != 0) = false := bne_eq_false_iff_eq.mpr c14
      clear c14
      (first | rw [c14b0] | (simp only [i64_w, i32_w]; rw [c14b0]) | skip)
      by_cases c15 : t12004 < 0
      ·rw [if_pos c15] at H
       have c15b0 : decide (t12004 < 0) = true := decide_eq_true c15
       clear c15
       have H' := Aside0.mk H
       clear H
       go_wp2
       go_meet
       case rel => exact ⟨_, (true), (by first | rfl | (simp; done) | (simp [*]; done)), H', ⟨by have := HJ2.out; first | omega | exact Nat.le_refl _⟩, ⟨by repeat (first | (with_reducible first | exact HB.out | apply below_alloc | apply pw_below_drewN | apply below_drew1) | exact HB.out)⟩⟩
      ·rw [if_neg c15] at H
       have c15b0 : decide (t12004 < 0) = false := decide_eq_false c15
       clear c15
       have H' := Aside0.mk H
       clear H
       go_wp2
       go_meet
       case rel => exact ⟨_, (decide (t12004 > 17179869184)), (by first | rfl | (simp; done) | (simp [*]; done)), H', ⟨by have := HJ2.out; first | omega | exact Nat.le_refl _⟩, ⟨by repeat (first | (with_reducible first | exact HB.out | apply below_alloc | apply pw_below_drewN | apply below_drew1) | exact HB.out)⟩⟩
     ·rw [if_neg c14] at H
      have c14b0 : (t12005 == 0) = false := beq_eq_false_iff_ne.mpr c14
      have c14b1 : (t12005 != 0) = true := bne_iff_ne.mpr c14
      (first | rw [c14b0] | (simp only [i64_w, i32_w]; rw [c14b0]) | skip)
      have H' := Aside0.mk H
      clear H
      go_wp2
      go_meet
      case rel => exact ⟨_, (true), (by first | rfl | (simp; done) | (simp [*]; done)), H', ⟨by have := HJ2.out; first | omega | exact Nat.le_refl _⟩, ⟨by repeat (first | (with_reducible first | exact HB.out | apply below_alloc | apply pw_below_drewN | apply below_drew1) | exact HB.out)⟩⟩
    case rest =>
     clear HC12
     try clear c1
     try clear c2
     try clear p2
     try clear c5
     try clear c8
     try clear c11
     try clear c12
     try clear c13
     try clear c14
     try clear c14b0
     try clear c14b1
     try clear c15
     try clear c15b0
     try clear p2
     obtain ⟨kq, x37_11, rfl, HA, HJ11, HB⟩ := hcut
     cases kq with
     | zero => exact absurd HA.out (by simp [papermilllaw13_IsoHalves.j1])
     | succ kj11 =>
      have H := HA.out
      clear HA
      simp only [papermilllaw13_IsoHalves.j1] at H
      by_cases c16 : x37_11 = true
      ·subst c16
       have H1 : (some false) = some r := by rw [if_pos rfl] at H; exact H
       clear H
       have H := H1
       clear H1
       obtain rfl := Option.some.inj H
       go_wp2
       go_ret
       exact ⟨by first | rfl | (simp [errW_none, errW_some] <;> rfl) | (simp [*, errW_none, errW_some] <;> rfl), by repeat (first | (with_reducible first | exact HB.out | apply below_alloc | apply pw_below_drewN | apply below_drew1) | exact HB.out)⟩
      ·replace c16 := Bool.eq_false_iff.mpr c16
       subst c16
       have H1 : (if a1 < 0 then (papermilllaw13_IsoHalves.j2 kj11 l0 a1 t12004 true) else (papermilllaw13_IsoHalves.j2 kj11 l0 a1 t12004 (decide (a1 > t12004)))) = some r := by rw [if_neg (show ¬ (false = true) by decide)] at H; first | exact H | simpa using H
       clear H
       have H := H1
       clear H1
       have HC17 := Aside0.mk H
       clear H
       go_upto_region 6 with (fail)
       go_cut [44] (fun v44 wc => ∃ (kq : Nat) (x44_16 : Bool), v44 = .bool x44_16 ∧ Aside0 (papermilllaw13_IsoHalves.j2 kq l0 a1 t12004 x44_16 = some r) ∧ Aside0 (kq ≤ kj11) ∧ Aside0 (Below w.heap.size w wc))
       case first =>
        have H := HC17.out
        clear HC17
        by_cases c18 : a1 < 0
        ·rw [if_pos c18] at H
         have c18b0 : decide (a1 < 0) = true := decide_eq_true c18
         clear c18
         (first | rw [c18b0] | (simp only [i64_w, i32_w]; rw [c18b0]) | skip)
         have H' := Aside0.mk H
         clear H
         go_wp2
         go_meet
         case rel => exact ⟨_, (true), (by first | rfl | (simp; done) | (simp [*]; done)), H', ⟨by have := HJ2.out; have := HJ11.out; first | omega | exact Nat.le_refl _⟩, ⟨by repeat (first | (with_reducible first | exact HB.out | apply below_alloc | apply pw_below_drewN | apply below_drew1) | exact HB.out)⟩⟩
        ·rw [if_neg c18] at H
         have c18b0 : decide (a1 < 0) = false := decide_eq_false c18
         clear c18
         (first | rw [c18b0] | (simp only [i64_w, i32_w]; rw [c18b0]) | skip)
         have H' := Aside0.mk H
         clear H
         go_wp2
         go_meet
         case rel => exact ⟨_, (decide (a1 > t12004)), (by first | rfl | (simp; done) | (simp [*]; done)), H', ⟨by have := HJ2.out; have := HJ11.out; first | omega | exact Nat.le_refl _⟩, ⟨by repeat (first | (with_reducible first | exact HB.out | apply below_alloc | apply pw_below_drewN | apply below_drew1) | exact HB.out)⟩⟩
       case rest =>
        clear HC17
        try clear c1
        try clear c2
        try clear p2
        try clear c5
        try clear c8
        try clear c11
        try clear c12
        try clear c13
        try clear c14
        try clear c14b0
        try clear c14b1
        try clear c15
        try clear c15b0
        try clear c16
        try clear c18
        try clear c18b0
        try clear p2
        obtain ⟨kq, x44_16, rfl, HA, HJ16, HB⟩ := hcut
        cases kq with
        | zero => exact absurd HA.out (by simp [papermilllaw13_IsoHalves.j2])
        | succ kj16 =>
         have H := HA.out
         clear HA
         simp only [papermilllaw13_IsoHalves.j2] at H
         by_cases c19 : x44_16 = true
         ·subst c19
          have H1 : ((papermilllaw13_awake.f).bind fun t12006 => (some t12006)) = some r := by rw [if_pos rfl] at H; exact H
          clear H
          have H := H1
          clear H1
          replace H := Option.bind_eq_some_iff.mp H
          obtain ⟨t12006, A200, H⟩ := H
          replace H : (some t12006) = some r := H
          have A20 := Aside0.mk A200
          clear A200
          obtain rfl := Option.some.inj H
          go_wp2_with (first | ((with_reducible refine gate_callee (f := 13) rfl ?_); refine goesL_ (some 45) rfl rfl Try.func13 (by kernel_rfl) rfl #[] rfl (by (try simp only [List.map_toArray, List.map_cons, List.map_nil]); first | done | rfl | (simp only [List.length_drop, List.length_take]; rfl)) ?_; (with_reducible refine (papermilllaw13_awake.calls  t12006 _ A20.out).mono ?_); rintro e w21 ⟨rfl, hb⟩; refine ⟨_, rfl, ?_⟩; have n0_ := Aside0.mk (below_step (by repeat (first | (with_reducible first | exact HB.out | apply below_alloc | apply pw_below_drewN | apply below_drew1) | exact HB.out)) hb); clear HB; have HB := n0_; clear n0_; (try clear hb); (try clear hb2); (try clear hk); (try clear hi)))
          go_ret
          exact ⟨by first | rfl | (simp [errW_none, errW_some] <;> rfl) | (simp [*, errW_none, errW_some] <;> rfl), by repeat (first | (with_reducible first | exact HB.out | apply below_alloc | apply pw_below_drewN | apply below_drew1) | exact HB.out)⟩
         ·replace c19 := Bool.eq_false_iff.mpr c19
          subst c19
          have H1 : ((iso_Part.f l0 0 a1).bind fun bt12007 => ((iso_Part.f l0 a1 t12004).bind fun bt12011 => ((iso_Join.f bt12007.1 bt12011.1).bind fun bt12015 => ((iso_Norm.f l0).bind fun bt12019 => (if bt12007.2 = 0 then (if bt12011.2 = 0 then (if bt12015.2 = 0 then (if bt12019.2 = 0 then ((papermillref13_Same.f kj16 bt12015.1 bt12019.1).bind fun t12023 => (if t12023 = true then ((papermilllaw13_awake.f).bind fun t12024 => (some t12024)) else (some false))) else (some false)) else (some false)) else (some false)) else (some false)))))) = some r := by rw [if_neg (show ¬ (false = true) by decide)] at H; first | exact H | simpa using H
          clear H
          have H := H1
          clear H1
          replace H := Option.bind_eq_some_iff.mp H
          obtain ⟨⟨t12007, t12010⟩, A220, H⟩ := H
          replace H : ((iso_Part.f l0 a1 t12004).bind fun bt12011 => ((iso_Join.f t12007 bt12011.1).bind fun bt12015 => ((iso_Norm.f l0).bind fun bt12019 => (if t12010 = 0 then (if bt12011.2 = 0 then (if bt12015.2 = 0 then (if bt12019.2 = 0 then ((papermillref13_Same.f kj16 bt12015.1 bt12019.1).bind fun t12023 => (if t12023 = true then ((papermilllaw13_awake.f).bind fun t12024 => (some t12024)) else (some false))) else (some false)) else (some false)) else (some false)) else (some false))))) = some r := H
          have A22 := Aside0.mk A220
          clear A220
          replace H := Option.bind_eq_some_iff.mp H
          obtain ⟨⟨t12011, t12014⟩, A230, H⟩ := H
          replace H : ((iso_Join.f t12007 t12011).bind fun bt12015 => ((iso_Norm.f l0).bind fun bt12019 => (if t12010 = 0 then (if t12014 = 0 then (if bt12015.2 = 0 then (if bt12019.2 = 0 then ((papermillref13_Same.f kj16 bt12015.1 bt12019.1).bind fun t12023 => (if t12023 = true then ((papermilllaw13_awake.f).bind fun t12024 => (some t12024)) else (some false))) else (some false)) else (some false)) else (some false)) else (some false)))) = some r := H
          have A23 := Aside0.mk A230
          clear A230
          replace H := Option.bind_eq_some_iff.mp H
          obtain ⟨⟨t12015, t12016⟩, A240, H⟩ := H
          replace H : ((iso_Norm.f l0).bind fun bt12019 => (if t12010 = 0 then (if t12014 = 0 then (if t12016 = 0 then (if bt12019.2 = 0 then ((papermillref13_Same.f kj16 t12015 bt12019.1).bind fun t12023 => (if t12023 = true then ((papermilllaw13_awake.f).bind fun t12024 => (some t12024)) else (some false))) else (some false)) else (some false)) else (some false)) else (some false))) = some r := H
          have A24 := Aside0.mk A240
          clear A240
          replace H := Option.bind_eq_some_iff.mp H
          obtain ⟨⟨t12019, t12020⟩, A250, H⟩ := H
          replace H : (if t12010 = 0 then (if t12014 = 0 then (if t12016 = 0 then (if t12020 = 0 then ((papermillref13_Same.f kj16 t12015 t12019).bind fun t12023 => (if t12023 = true then ((papermilllaw13_awake.f).bind fun t12024 => (some t12024)) else (some false))) else (some false)) else (some false)) else (some false)) else (some false)) = some r := H
          have A25 := Aside0.mk A250
          clear A250
          by_cases c26 : t12010 = 0
          ·rw [if_pos c26] at H
           have c26b0 : (t12010 == 0) = true := beq_iff_eq.mpr c26
           have c26b1 : (t12010 != 0) = false := bne_eq_false_iff_eq.mpr c26
           clear c26
           by_cases c27 : t12014 = 0
           ·rw [if_pos c27] at H
            have c27b0 : (t12014 == 0) = true := beq_iff_eq.mpr c27
            have c27b1 : (t12014 != 0) = false := bne_eq_false_iff_eq.mpr c27
            clear c27
            by_cases c28 : t12016 = 0
            ·rw [if_pos c28] at H
             have c28b0 : (t12016 == 0) = true := beq_iff_eq.mpr c28
             have c28b1 : (t12016 != 0) = false := bne_eq_false_iff_eq.mpr c28
             clear c28
             by_cases c29 : t12020 = 0
             ·rw [if_pos c29] at H
              have c29b0 : (t12020 == 0) = true := beq_iff_eq.mpr c29
              have c29b1 : (t12020 != 0) = false := bne_eq_false_iff_eq.mpr c29
              clear c29
              replace H := Option.bind_eq_some_iff.mp H
              obtain ⟨t12023, A300, H⟩ := H
              replace H : (if t12023 = true then ((papermilllaw13_awake.f).bind fun t12024 => (some t12024)) else (some false)) = some r := H
              have A30 := Aside0.mk A300
              clear A300
              by_cases c31 : t12023 = true
              ·subst c31
               have H1 : ((papermilllaw13_awake.f).bind fun t12024 => (some t12024)) = some r := by rw [if_pos rfl] at H; exact H
               clear H
               have H := H1
               clear H1
               replace H := Option.bind_eq_some_iff.mp H
               obtain ⟨t12024, A320, H⟩ := H
               replace H : (some t12024) = some r := H
               have A32 := Aside0.mk A320
               clear A320
               obtain rfl := Option.some.inj H
               go_wp2_with (first | ((with_reducible refine gate_callee (f := 36) rfl ?_); refine goesL_ (some 50) rfl rfl Try.func36 (by kernel_rfl) rfl #[.slice A0 l0.length c0, .agg #[.int .i64 0, .int .i64 a1]] rfl (by (try simp only [List.map_toArray, List.map_cons, List.map_nil]); first | done | rfl | (simp only [List.length_drop, List.length_take]; rfl)) ?_; (with_reducible refine (iso_Part.calls _ _ l0 0 a1 t12007 t12010 _ ?side1 ?side2 A22.out).mono ?_); (case side1 => repeat (first | exact (Kd.C_below HR0.out HB.out) | (with_reducible refine Kd.C_alloc ?_ _) | (with_reducible refine Kd.C_drewN ?_ _) | (with_reducible refine Kd.C_drew ?_))); (case side2 => exact HC0.out); rintro e w33 ⟨v12008, rfl, ho0, hb⟩; refine ⟨_, rfl, ?_⟩; have n0_ := Aside0.mk (Kd.R_lower ho0 (below_size (by repeat (first | (with_reducible first | exact HB.out | apply below_alloc | apply pw_below_drewN | apply below_drew1) | exact HB.out)))); have n1_ := Aside0.mk (below_step (by repeat (first | (with_reducible first | exact HB.out | apply below_alloc | apply pw_below_drewN | apply below_drew1) | exact HB.out)) hb); clear HB; have HO12009 := n0_; have HB := n1_; clear n0_ n1_; (try clear hb); (try clear hb2); (try clear hk); (try clear hi); (try clear ho0)) | ((with_reducible refine gate_callee (f := 36) rfl ?_); refine goesL_ (some 58) rfl rfl Try.func36 (by kernel_rfl) rfl #[.slice A0 l0.length c0, .agg #[.int .i64 a1, .int .i64 t12004]] rfl (by (try simp only [List.map_toArray, List.map_cons, List.map_nil]); first | done | rfl | (simp only [List.length_drop, List.length_take]; rfl)) ?_; (with_reducible refine (iso_Part.calls _ _ l0 a1 t12004 t12011 t12014 _ ?side1 ?side2 A23.out).mono ?_); (case side1 => repeat (first | exact (Kd.C_below HR0.out HB.out) | (with_reducible refine Kd.C_alloc ?_ _) | (with_reducible refine Kd.C_drewN ?_ _) | (with_reducible refine Kd.C_drew ?_))); (case side2 => exact HC0.out); rintro e w34 ⟨v12012, rfl, ho0, hb⟩; refine ⟨_, rfl, ?_⟩; have n0_ := Aside0.mk (Kd.R_elder' (by (with_reducible repeat (first | apply Kd.R_alloc | apply Kd.R_drewN | apply Kd.R_drew)); exact HO12009.out) (Kd.R_base ho0) hb); have n1_ := Aside0.mk (Kd.R_lower (Kd.R_new' ho0 (Kd.R_lt (by (with_reducible repeat (first | apply Kd.R_alloc | apply Kd.R_drewN | apply Kd.R_drew)); exact HO12009.out))) (below_size (by repeat (first | (with_reducible first | exact HB.out | apply below_alloc | apply pw_below_drewN | apply below_drew1) | exact HB.out)))); have n2_ := Aside0.mk (below_step (by repeat (first | (with_reducible first | exact HB.out | apply below_alloc | apply pw_below_drewN | apply below_drew1) | exact HB.out)) hb); clear HO12009; clear HB; have HO12009 := n0_; have HO12013 := n1_; have HB := n2_; clear n0_ n1_ n2_; (try clear hb); (try clear hb2); (try clear hk); (try clear hi); (try clear ho0); obtain ⟨Ao35, co35, eo35⟩ := Kd.R_slice HO12009.out; subst eo35; obtain ⟨Ao36, co36, eo36⟩ := Kd.R_slice HO12013.out; subst eo36) | ((with_reducible refine gate_callee (f := 38) rfl ?_); refine goesL_ (some 64) rfl rfl Try.func38 (by kernel_rfl) rfl #[.slice Ao35 t12007.length co35, .slice Ao36 t12011.length co36] rfl (by (try simp only [List.map_toArray, List.map_cons, List.map_nil]); first | done | rfl | (simp only [List.length_drop, List.length_take]; rfl)) ?_; (with_reducible refine (iso_Join.calls _ _ t12007 _ _ t12011 t12015 t12016 _ ?side1 ?side2 ?side3 ?side4 A24.out).mono ?_); (case side1 => repeat (first | exact (Kd.R_reads' HO12009.out).2.2 | (with_reducible refine Kd.C_alloc ?_ _) | (with_reducible refine Kd.C_drewN ?_ _) | (with_reducible refine Kd.C_drew ?_))); (case side2 => exact (Kd.R_reads' HO12009.out).2.1); (case side3 => repeat (first | exact (Kd.R_reads' HO12013.out).2.2 | (with_reducible refine Kd.C_alloc ?_ _) | (with_reducible refine Kd.C_drewN ?_ _) | (with_reducible refine Kd.C_drew ?_))); (case side4 => exact (Kd.R_reads' HO12013.out).2.1); rintro e w37 ⟨v12017, rfl, ho0, hb⟩; refine ⟨_, rfl, ?_⟩; have n0_ := Aside0.mk (Kd.R_elder' (by (with_reducible repeat (first | apply Kd.R_alloc | apply Kd.R_drewN | apply Kd.R_drew)); exact HO12009.out) (Kd.R_base ho0) hb); have n1_ := Aside0.mk (Kd.R_elder' (by (with_reducible repeat (first | apply Kd.R_alloc | apply Kd.R_drewN | apply Kd.R_drew)); exact HO12013.out) (Kd.R_base ho0) hb); have n2_ := Aside0.mk (Kd.R_lower (Kd.R_new' (Kd.R_new' ho0 (Kd.R_lt (by (with_reducible repeat (first | apply Kd.R_alloc | apply Kd.R_drewN | apply Kd.R_drew)); exact HO12009.out))) (Kd.R_lt (by (with_reducible repeat (first | apply Kd.R_alloc | apply Kd.R_drewN | apply Kd.R_drew)); exact HO12013.out))) (below_size (by repeat (first | (with_reducible first | exact HB.out | apply below_alloc | apply pw_below_drewN | apply below_drew1) | exact HB.out)))); have n3_ := Aside0.mk (below_step (by repeat (first | (with_reducible first | exact HB.out | apply below_alloc | apply pw_below_drewN | apply below_drew1) | exact HB.out)) hb); clear HO12009; clear HO12013; clear HB; have HO12009 := n0_; have HO12013 := n1_; have HO12018 := n2_; have HB := n3_; clear n0_ n1_ n2_ n3_; (try clear hb); (try clear hb2); (try clear hk); (try clear hi); (try clear ho0)) | ((with_reducible refine gate_callee (f := 21) rfl ?_); refine goesL_ (some 69) rfl rfl Try.func21 (by kernel_rfl) rfl #[.slice A0 l0.length c0] rfl (by (try simp only [List.map_toArray, List.map_cons, List.map_nil]); first | done | rfl | (simp only [List.length_drop, List.length_take]; rfl)) ?_; (with_reducible refine (iso_Norm.calls _ _ l0 t12019 t12020 _ ?side1 ?side2 A25.out).mono ?_); (case side1 => repeat (first | exact (Kd.C_below HR0.out HB.out) | (with_reducible refine Kd.C_alloc ?_ _) | (with_reducible refine Kd.C_drewN ?_ _) | (with_reducible refine Kd.C_drew ?_))); (case side2 => exact HC0.out); rintro e w38 ⟨v12021, rfl, ho0, hb⟩; refine ⟨_, rfl, ?_⟩; have n0_ := Aside0.mk (Kd.R_elder' (by (with_reducible repeat (first | apply Kd.R_alloc | apply Kd.R_drewN | apply Kd.R_drew)); exact HO12009.out) (Kd.R_base ho0) hb); have n1_ := Aside0.mk (Kd.R_elder' (by (with_reducible repeat (first | apply Kd.R_alloc | apply Kd.R_drewN | apply Kd.R_drew)); exact HO12013.out) (Kd.R_base ho0) hb); have n2_ := Aside0.mk (Kd.R_elder' (by (with_reducible repeat (first | apply Kd.R_alloc | apply Kd.R_drewN | apply Kd.R_drew)); exact HO12018.out) (Kd.R_base ho0) hb); have n3_ := Aside0.mk (Kd.R_lower (Kd.R_new' (Kd.R_new' (Kd.R_new' ho0 (Kd.R_lt (by (with_reducible repeat (first | apply Kd.R_alloc | apply Kd.R_drewN | apply Kd.R_drew)); exact HO12009.out))) (Kd.R_lt (by (with_reducible repeat (first | apply Kd.R_alloc | apply Kd.R_drewN | apply Kd.R_drew)); exact HO12013.out))) (Kd.R_lt (by (with_reducible repeat (first | apply Kd.R_alloc | apply Kd.R_drewN | apply Kd.R_drew)); exact HO12018.out))) (below_size (by repeat (first | (with_reducible first | exact HB.out | apply below_alloc | apply pw_below_drewN | apply below_drew1) | exact HB.out)))); have n4_ := Aside0.mk (below_step (by repeat (first | (with_reducible first | exact HB.out | apply below_alloc | apply pw_below_drewN | apply below_drew1) | exact HB.out)) hb); clear HO12009; clear HO12013; clear HO12018; clear HB; have HO12009 := n0_; have HO12013 := n1_; have HO12018 := n2_; have HO12022 := n3_; have HB := n4_; clear n0_ n1_ n2_ n3_ n4_; (try clear hb); (try clear hb2); (try clear hk); (try clear hi); (try clear ho0); obtain ⟨Ao39, co39, eo39⟩ := Kd.R_slice HO12018.out; subst eo39; obtain ⟨Ao40, co40, eo40⟩ := Kd.R_slice HO12022.out; subst eo40) | (go_at_call 20; (with_reducible refine (papermillref13_Same.calls kj16 _ _ t12015 _ _ t12019 true _ ?side1 ?side2 ?side3 ?side4 A30.out).mono ?_); (case side1 => repeat (first | exact (Kd.R_reads' HO12018.out).2.2 | (with_reducible refine Kd.C_alloc ?_ _) | (with_reducible refine Kd.C_drewN ?_ _) | (with_reducible refine Kd.C_drew ?_))); (case side2 => exact (Kd.R_reads' HO12018.out).2.1); (case side3 => repeat (first | exact (Kd.R_reads' HO12022.out).2.2 | (with_reducible refine Kd.C_alloc ?_ _) | (with_reducible refine Kd.C_drewN ?_ _) | (with_reducible refine Kd.C_drew ?_))); (case side4 => exact (Kd.R_reads' HO12022.out).2.1); rintro e w' ⟨rfl, ⟨nd, rfl⟩⟩) | (go_at_call 13; (with_reducible refine (papermilllaw13_awake.calls  t12024 _ A32.out).mono ?_); rintro e w41 ⟨rfl, hb⟩; have n0_ := Aside0.mk (Kd.R_below (by (with_reducible repeat (first | apply Kd.R_alloc | apply Kd.R_drewN | apply Kd.R_drew)); exact HO12009.out) hb); have n1_ := Aside0.mk (Kd.R_below (by (with_reducible repeat (first | apply Kd.R_alloc | apply Kd.R_drewN | apply Kd.R_drew)); exact HO12013.out) hb); have n2_ := Aside0.mk (Kd.R_below (by (with_reducible repeat (first | apply Kd.R_alloc | apply Kd.R_drewN | apply Kd.R_drew)); exact HO12018.out) hb); have n3_ := Aside0.mk (Kd.R_below (by (with_reducible repeat (first | apply Kd.R_alloc | apply Kd.R_drewN | apply Kd.R_drew)); exact HO12022.out) hb); have n4_ := Aside0.mk (below_step (by repeat (first | (with_reducible first | exact HB.out | apply below_alloc | apply pw_below_drewN | apply below_drew1) | exact HB.out)) hb); clear HO12009; clear HO12013; clear HO12018; clear HO12022; clear HB; have HO12009 := n0_; have HO12013 := n1_; have HO12018 := n2_; have HO12022 := n3_; have HB := n4_; clear n0_ n1_ n2_ n3_ n4_; (try clear hb); (try clear hb2); (try clear hk); (try clear hi)))
               go_ret
               exact ⟨by first | rfl | (simp [errW_none, errW_some] <;> rfl) | (simp [*, errW_none, errW_some] <;> rfl), by repeat (first | (with_reducible first | exact HB.out | apply below_alloc | apply pw_below_drewN | apply below_drew1) | exact HB.out)⟩
              ·replace c31 := Bool.eq_false_iff.mpr c31
               subst c31
               have H1 : (some false) = some r := by rw [if_neg (show ¬ (false = true) by decide)] at H; first | exact H | simpa using H
               clear H
               have H := H1
               clear H1
               obtain rfl := Option.some.inj H
               go_wp2_with (first | ((with_reducible refine gate_callee (f := 36) rfl ?_); refine goesL_ (some 50) rfl rfl Try.func36 (by kernel_rfl) rfl #[.slice A0 l0.length c0, .agg #[.int .i64 0, .int .i64 a1]] rfl (by (try simp only [List.map_toArray, List.map_cons, List.map_nil]); first | done | rfl | (simp only [List.length_drop, List.length_take]; rfl)) ?_; (with_reducible refine (iso_Part.calls _ _ l0 0 a1 t12007 t12010 _ ?side1 ?side2 A22.out).mono ?_); (case side1 => repeat (first | exact (Kd.C_below HR0.out HB.out) | (with_reducible refine Kd.C_alloc ?_ _) | (with_reducible refine Kd.C_drewN ?_ _) | (with_reducible refine Kd.C_drew ?_))); (case side2 => exact HC0.out); rintro e w42 ⟨v12008, rfl, ho0, hb⟩; refine ⟨_, rfl, ?_⟩; have n0_ := Aside0.mk (Kd.R_lower ho0 (below_size (by repeat (first | (with_reducible first | exact HB.out | apply below_alloc | apply pw_below_drewN | apply below_drew1) | exact HB.out)))); have n1_ := Aside0.mk (below_step (by repeat (first | (with_reducible first | exact HB.out | apply below_alloc | apply pw_below_drewN | apply below_drew1) | exact HB.out)) hb); clear HB; have HO12009 := n0_; have HB := n1_; clear n0_ n1_; (try clear hb); (try clear hb2); (try clear hk); (try clear hi); (try clear ho0)) | ((with_reducible refine gate_callee (f := 36) rfl ?_); refine goesL_ (some 58) rfl rfl Try.func36 (by kernel_rfl) rfl #[.slice A0 l0.length c0, .agg #[.int .i64 a1, .int .i64 t12004]] rfl (by (try simp only [List.map_toArray, List.map_cons, List.map_nil]); first | done | rfl | (simp only [List.length_drop, List.length_take]; rfl)) ?_; (with_reducible refine (iso_Part.calls _ _ l0 a1 t12004 t12011 t12014 _ ?side1 ?side2 A23.out).mono ?_); (case side1 => repeat (first | exact (Kd.C_below HR0.out HB.out) | (with_reducible refine Kd.C_alloc ?_ _) | (with_reducible refine Kd.C_drewN ?_ _) | (with_reducible refine Kd.C_drew ?_))); (case side2 => exact HC0.out); rintro e w43 ⟨v12012, rfl, ho0, hb⟩; refine ⟨_, rfl, ?_⟩; have n0_ := Aside0.mk (Kd.R_elder' (by (with_reducible repeat (first | apply Kd.R_alloc | apply Kd.R_drewN | apply Kd.R_drew)); exact HO12009.out) (Kd.R_base ho0) hb); have n1_ := Aside0.mk (Kd.R_lower (Kd.R_new' ho0 (Kd.R_lt (by (with_reducible repeat (first | apply Kd.R_alloc | apply Kd.R_drewN | apply Kd.R_drew)); exact HO12009.out))) (below_size (by repeat (first | (with_reducible first | exact HB.out | apply below_alloc | apply pw_below_drewN | apply below_drew1) | exact HB.out)))); have n2_ := Aside0.mk (below_step (by repeat (first | (with_reducible first | exact HB.out | apply below_alloc | apply pw_below_drewN | apply below_drew1) | exact HB.out)) hb); clear HO12009; clear HB; have HO12009 := n0_; have HO12013 := n1_; have HB := n2_; clear n0_ n1_ n2_; (try clear hb); (try clear hb2); (try clear hk); (try clear hi); (try clear ho0); obtain ⟨Ao44, co44, eo44⟩ := Kd.R_slice HO12009.out; subst eo44; obtain ⟨Ao45, co45, eo45⟩ := Kd.R_slice HO12013.out; subst eo45) | ((with_reducible refine gate_callee (f := 38) rfl ?_); refine goesL_ (some 64) rfl rfl Try.func38 (by kernel_rfl) rfl #[.slice Ao44 t12007.length co44, .slice Ao45 t12011.length co45] rfl (by (try simp only [List.map_toArray, List.map_cons, List.map_nil]); first | done | rfl | (simp only [List.length_drop, List.length_take]; rfl)) ?_; (with_reducible refine (iso_Join.calls _ _ t12007 _ _ t12011 t12015 t12016 _ ?side1 ?side2 ?side3 ?side4 A24.out).mono ?_); (case side1 => repeat (first | exact (Kd.R_reads' HO12009.out).2.2 | (with_reducible refine Kd.C_alloc ?_ _) | (with_reducible refine Kd.C_drewN ?_ _) | (with_reducible refine Kd.C_drew ?_))); (case side2 => exact (Kd.R_reads' HO12009.out).2.1); (case side3 => repeat (first | exact (Kd.R_reads' HO12013.out).2.2 | (with_reducible refine Kd.C_alloc ?_ _) | (with_reducible refine Kd.C_drewN ?_ _) | (with_reducible refine Kd.C_drew ?_))); (case side4 => exact (Kd.R_reads' HO12013.out).2.1); rintro e w46 ⟨v12017, rfl, ho0, hb⟩; refine ⟨_, rfl, ?_⟩; have n0_ := Aside0.mk (Kd.R_elder' (by (with_reducible repeat (first | apply Kd.R_alloc | apply Kd.R_drewN | apply Kd.R_drew)); exact HO12009.out) (Kd.R_base ho0) hb); have n1_ := Aside0.mk (Kd.R_elder' (by (with_reducible repeat (first | apply Kd.R_alloc | apply Kd.R_drewN | apply Kd.R_drew)); exact HO12013.out) (Kd.R_base ho0) hb); have n2_ := Aside0.mk (Kd.R_lower (Kd.R_new' (Kd.R_new' ho0 (Kd.R_lt (by (with_reducible repeat (first | apply Kd.R_alloc | apply Kd.R_drewN | apply Kd.R_drew)); exact HO12009.out))) (Kd.R_lt (by (with_reducible repeat (first | apply Kd.R_alloc | apply Kd.R_drewN | apply Kd.R_drew)); exact HO12013.out))) (below_size (by repeat (first | (with_reducible first | exact HB.out | apply below_alloc | apply pw_below_drewN | apply below_drew1) | exact HB.out)))); have n3_ := Aside0.mk (below_step (by repeat (first | (with_reducible first | exact HB.out | apply below_alloc | apply pw_below_drewN | apply below_drew1) | exact HB.out)) hb); clear HO12009; clear HO12013; clear HB; have HO12009 := n0_; have HO12013 := n1_; have HO12018 := n2_; have HB := n3_; clear n0_ n1_ n2_ n3_; (try clear hb); (try clear hb2); (try clear hk); (try clear hi); (try clear ho0)) | ((with_reducible refine gate_callee (f := 21) rfl ?_); refine goesL_ (some 69) rfl rfl Try.func21 (by kernel_rfl) rfl #[.slice A0 l0.length c0] rfl (by (try simp only [List.map_toArray, List.map_cons, List.map_nil]); first | done | rfl | (simp only [List.length_drop, List.length_take]; rfl)) ?_; (with_reducible refine (iso_Norm.calls _ _ l0 t12019 t12020 _ ?side1 ?side2 A25.out).mono ?_); (case side1 => repeat (first | exact (Kd.C_below HR0.out HB.out) | (with_reducible refine Kd.C_alloc ?_ _) | (with_reducible refine Kd.C_drewN ?_ _) | (with_reducible refine Kd.C_drew ?_))); (case side2 => exact HC0.out); rintro e w47 ⟨v12021, rfl, ho0, hb⟩; refine ⟨_, rfl, ?_⟩; have n0_ := Aside0.mk (Kd.R_elder' (by (with_reducible repeat (first | apply Kd.R_alloc | apply Kd.R_drewN | apply Kd.R_drew)); exact HO12009.out) (Kd.R_base ho0) hb); have n1_ := Aside0.mk (Kd.R_elder' (by (with_reducible repeat (first | apply Kd.R_alloc | apply Kd.R_drewN | apply Kd.R_drew)); exact HO12013.out) (Kd.R_base ho0) hb); have n2_ := Aside0.mk (Kd.R_elder' (by (with_reducible repeat (first | apply Kd.R_alloc | apply Kd.R_drewN | apply Kd.R_drew)); exact HO12018.out) (Kd.R_base ho0) hb); have n3_ := Aside0.mk (Kd.R_lower (Kd.R_new' (Kd.R_new' (Kd.R_new' ho0 (Kd.R_lt (by (with_reducible repeat (first | apply Kd.R_alloc | apply Kd.R_drewN | apply Kd.R_drew)); exact HO12009.out))) (Kd.R_lt (by (with_reducible repeat (first | apply Kd.R_alloc | apply Kd.R_drewN | apply Kd.R_drew)); exact HO12013.out))) (Kd.R_lt (by (with_reducible repeat (first | apply Kd.R_alloc | apply Kd.R_drewN | apply Kd.R_drew)); exact HO12018.out))) (below_size (by repeat (first | (with_reducible first | exact HB.out | apply below_alloc | apply pw_below_drewN | apply below_drew1) | exact HB.out)))); have n4_ := Aside0.mk (below_step (by repeat (first | (with_reducible first | exact HB.out | apply below_alloc | apply pw_below_drewN | apply below_drew1) | exact HB.out)) hb); clear HO12009; clear HO12013; clear HO12018; clear HB; have HO12009 := n0_; have HO12013 := n1_; have HO12018 := n2_; have HO12022 := n3_; have HB := n4_; clear n0_ n1_ n2_ n3_ n4_; (try clear hb); (try clear hb2); (try clear hk); (try clear hi); (try clear ho0); obtain ⟨Ao48, co48, eo48⟩ := Kd.R_slice HO12018.out; subst eo48; obtain ⟨Ao49, co49, eo49⟩ := Kd.R_slice HO12022.out; subst eo49) | (go_at_call 20; (with_reducible refine (papermillref13_Same.calls kj16 _ _ t12015 _ _ t12019 false _ ?side1 ?side2 ?side3 ?side4 A30.out).mono ?_); (case side1 => repeat (first | exact (Kd.R_reads' HO12018.out).2.2 | (with_reducible refine Kd.C_alloc ?_ _) | (with_reducible refine Kd.C_drewN ?_ _) | (with_reducible refine Kd.C_drew ?_))); (case side2 => exact (Kd.R_reads' HO12018.out).2.1); (case side3 => repeat (first | exact (Kd.R_reads' HO12022.out).2.2 | (with_reducible refine Kd.C_alloc ?_ _) | (with_reducible refine Kd.C_drewN ?_ _) | (with_reducible refine Kd.C_drew ?_))); (case side4 => exact (Kd.R_reads' HO12022.out).2.1); rintro e w' ⟨rfl, ⟨nd, rfl⟩⟩))
               go_ret
               exact ⟨by first | rfl | (simp [errW_none, errW_some] <;> rfl) | (simp [*, errW_none, errW_some] <;> rfl), by repeat (first | (with_reducible first | exact HB.out | apply below_alloc | apply pw_below_drewN | apply below_drew1) | exact HB.out)⟩
             ·rw [if_neg c29] at H
              have c29b0 : (t12020 == 0) = false := beq_eq_false_iff_ne.mpr c29
              have c29b1 : (t12020 != 0) = true := bne_iff_ne.mpr c29
              obtain rfl := Option.some.inj H
              go_wp2_with (first | ((with_reducible refine gate_callee (f := 36) rfl ?_); refine goesL_ (some 50) rfl rfl Try.func36 (by kernel_rfl) rfl #[.slice A0 l0.length c0, .agg #[.int .i64 0, .int .i64 a1]] rfl (by (try simp only [List.map_toArray, List.map_cons, List.map_nil]); first | done | rfl | (simp only [List.length_drop, List.length_take]; rfl)) ?_; (with_reducible refine (iso_Part.calls _ _ l0 0 a1 t12007 t12010 _ ?side1 ?side2 A22.out).mono ?_); (case side1 => repeat (first | exact (Kd.C_below HR0.out HB.out) | (with_reducible refine Kd.C_alloc ?_ _) | (with_reducible refine Kd.C_drewN ?_ _) | (with_reducible refine Kd.C_drew ?_))); (case side2 => exact HC0.out); rintro e w50 ⟨v12008, rfl, ho0, hb⟩; refine ⟨_, rfl, ?_⟩; have n0_ := Aside0.mk (Kd.R_lower ho0 (below_size (by repeat (first | (with_reducible first | exact HB.out | apply below_alloc | apply pw_below_drewN | apply below_drew1) | exact HB.out)))); have n1_ := Aside0.mk (below_step (by repeat (first | (with_reducible first | exact HB.out | apply below_alloc | apply pw_below_drewN | apply below_drew1) | exact HB.out)) hb); clear HB; have HO12009 := n0_; have HB := n1_; clear n0_ n1_; (try clear hb); (try clear hb2); (try clear hk); (try clear hi); (try clear ho0)) | ((with_reducible refine gate_callee (f := 36) rfl ?_); refine goesL_ (some 58) rfl rfl Try.func36 (by kernel_rfl) rfl #[.slice A0 l0.length c0, .agg #[.int .i64 a1, .int .i64 t12004]] rfl (by (try simp only [List.map_toArray, List.map_cons, List.map_nil]); first | done | rfl | (simp only [List.length_drop, List.length_take]; rfl)) ?_; (with_reducible refine (iso_Part.calls _ _ l0 a1 t12004 t12011 t12014 _ ?side1 ?side2 A23.out).mono ?_); (case side1 => repeat (first | exact (Kd.C_below HR0.out HB.out) | (with_reducible refine Kd.C_alloc ?_ _) | (with_reducible refine Kd.C_drewN ?_ _) | (with_reducible refine Kd.C_drew ?_))); (case side2 => exact HC0.out); rintro e w51 ⟨v12012, rfl, ho0, hb⟩; refine ⟨_, rfl, ?_⟩; have n0_ := Aside0.mk (Kd.R_elder' (by (with_reducible repeat (first | apply Kd.R_alloc | apply Kd.R_drewN | apply Kd.R_drew)); exact HO12009.out) (Kd.R_base ho0) hb); have n1_ := Aside0.mk (Kd.R_lower (Kd.R_new' ho0 (Kd.R_lt (by (with_reducible repeat (first | apply Kd.R_alloc | apply Kd.R_drewN | apply Kd.R_drew)); exact HO12009.out))) (below_size (by repeat (first | (with_reducible first | exact HB.out | apply below_alloc | apply pw_below_drewN | apply below_drew1) | exact HB.out)))); have n2_ := Aside0.mk (below_step (by repeat (first | (with_reducible first | exact HB.out | apply below_alloc | apply pw_below_drewN | apply below_drew1) | exact HB.out)) hb); clear HO12009; clear HB; have HO12009 := n0_; have HO12013 := n1_; have HB := n2_; clear n0_ n1_ n2_; (try clear hb); (try clear hb2); (try clear hk); (try clear hi); (try clear ho0); obtain ⟨Ao52, co52, eo52⟩ := Kd.R_slice HO12009.out; subst eo52; obtain ⟨Ao53, co53, eo53⟩ := Kd.R_slice HO12013.out; subst eo53) | ((with_reducible refine gate_callee (f := 38) rfl ?_); refine goesL_ (some 64) rfl rfl Try.func38 (by kernel_rfl) rfl #[.slice Ao52 t12007.length co52, .slice Ao53 t12011.length co53] rfl (by (try simp only [List.map_toArray, List.map_cons, List.map_nil]); first | done | rfl | (simp only [List.length_drop, List.length_take]; rfl)) ?_; (with_reducible refine (iso_Join.calls _ _ t12007 _ _ t12011 t12015 t12016 _ ?side1 ?side2 ?side3 ?side4 A24.out).mono ?_); (case side1 => repeat (first | exact (Kd.R_reads' HO12009.out).2.2 | (with_reducible refine Kd.C_alloc ?_ _) | (with_reducible refine Kd.C_drewN ?_ _) | (with_reducible refine Kd.C_drew ?_))); (case side2 => exact (Kd.R_reads' HO12009.out).2.1); (case side3 => repeat (first | exact (Kd.R_reads' HO12013.out).2.2 | (with_reducible refine Kd.C_alloc ?_ _) | (with_reducible refine Kd.C_drewN ?_ _) | (with_reducible refine Kd.C_drew ?_))); (case side4 => exact (Kd.R_reads' HO12013.out).2.1); rintro e w54 ⟨v12017, rfl, ho0, hb⟩; refine ⟨_, rfl, ?_⟩; have n0_ := Aside0.mk (Kd.R_elder' (by (with_reducible repeat (first | apply Kd.R_alloc | apply Kd.R_drewN | apply Kd.R_drew)); exact HO12009.out) (Kd.R_base ho0) hb); have n1_ := Aside0.mk (Kd.R_elder' (by (with_reducible repeat (first | apply Kd.R_alloc | apply Kd.R_drewN | apply Kd.R_drew)); exact HO12013.out) (Kd.R_base ho0) hb); have n2_ := Aside0.mk (Kd.R_lower (Kd.R_new' (Kd.R_new' ho0 (Kd.R_lt (by (with_reducible repeat (first | apply Kd.R_alloc | apply Kd.R_drewN | apply Kd.R_drew)); exact HO12009.out))) (Kd.R_lt (by (with_reducible repeat (first | apply Kd.R_alloc | apply Kd.R_drewN | apply Kd.R_drew)); exact HO12013.out))) (below_size (by repeat (first | (with_reducible first | exact HB.out | apply below_alloc | apply pw_below_drewN | apply below_drew1) | exact HB.out)))); have n3_ := Aside0.mk (below_step (by repeat (first | (with_reducible first | exact HB.out | apply below_alloc | apply pw_below_drewN | apply below_drew1) | exact HB.out)) hb); clear HO12009; clear HO12013; clear HB; have HO12009 := n0_; have HO12013 := n1_; have HO12018 := n2_; have HB := n3_; clear n0_ n1_ n2_ n3_; (try clear hb); (try clear hb2); (try clear hk); (try clear hi); (try clear ho0)) | ((with_reducible refine gate_callee (f := 21) rfl ?_); refine goesL_ (some 69) rfl rfl Try.func21 (by kernel_rfl) rfl #[.slice A0 l0.length c0] rfl (by (try simp only [List.map_toArray, List.map_cons, List.map_nil]); first | done | rfl | (simp only [List.length_drop, List.length_take]; rfl)) ?_; (with_reducible refine (iso_Norm.calls _ _ l0 t12019 t12020 _ ?side1 ?side2 A25.out).mono ?_); (case side1 => repeat (first | exact (Kd.C_below HR0.out HB.out) | (with_reducible refine Kd.C_alloc ?_ _) | (with_reducible refine Kd.C_drewN ?_ _) | (with_reducible refine Kd.C_drew ?_))); (case side2 => exact HC0.out); rintro e w55 ⟨v12021, rfl, ho0, hb⟩; refine ⟨_, rfl, ?_⟩; have n0_ := Aside0.mk (Kd.R_elder' (by (with_reducible repeat (first | apply Kd.R_alloc | apply Kd.R_drewN | apply Kd.R_drew)); exact HO12009.out) (Kd.R_base ho0) hb); have n1_ := Aside0.mk (Kd.R_elder' (by (with_reducible repeat (first | apply Kd.R_alloc | apply Kd.R_drewN | apply Kd.R_drew)); exact HO12013.out) (Kd.R_base ho0) hb); have n2_ := Aside0.mk (Kd.R_elder' (by (with_reducible repeat (first | apply Kd.R_alloc | apply Kd.R_drewN | apply Kd.R_drew)); exact HO12018.out) (Kd.R_base ho0) hb); have n3_ := Aside0.mk (Kd.R_lower (Kd.R_new' (Kd.R_new' (Kd.R_new' ho0 (Kd.R_lt (by (with_reducible repeat (first | apply Kd.R_alloc | apply Kd.R_drewN | apply Kd.R_drew)); exact HO12009.out))) (Kd.R_lt (by (with_reducible repeat (first | apply Kd.R_alloc | apply Kd.R_drewN | apply Kd.R_drew)); exact HO12013.out))) (Kd.R_lt (by (with_reducible repeat (first | apply Kd.R_alloc | apply Kd.R_drewN | apply Kd.R_drew)); exact HO12018.out))) (below_size (by repeat (first | (with_reducible first | exact HB.out | apply below_alloc | apply pw_below_drewN | apply below_drew1) | exact HB.out)))); have n4_ := Aside0.mk (below_step (by repeat (first | (with_reducible first | exact HB.out | apply below_alloc | apply pw_below_drewN | apply below_drew1) | exact HB.out)) hb); clear HO12009; clear HO12013; clear HO12018; clear HB; have HO12009 := n0_; have HO12013 := n1_; have HO12018 := n2_; have HO12022 := n3_; have HB := n4_; clear n0_ n1_ n2_ n3_ n4_; (try clear hb); (try clear hb2); (try clear hk); (try clear hi); (try clear ho0)))
              go_ret
              exact ⟨by first | rfl | (simp [errW_none, errW_some] <;> rfl) | (simp [*, errW_none, errW_some] <;> rfl), by repeat (first | (with_reducible first | exact HB.out | apply below_alloc | apply pw_below_drewN | apply below_drew1) | exact HB.out)⟩
            ·rw [if_neg c28] at H
             have c28b0 : (t12016 == 0) = false := beq_eq_false_iff_ne.mpr c28
             have c28b1 : (t12016 != 0) = true := bne_iff_ne.mpr c28
             obtain rfl := Option.some.inj H
             go_wp2_with (first | ((with_reducible refine gate_callee (f := 36) rfl ?_); refine goesL_ (some 50) rfl rfl Try.func36 (by kernel_rfl) rfl #[.slice A0 l0.length c0, .agg #[.int .i64 0, .int .i64 a1]] rfl (by (try simp only [List.map_toArray, List.map_cons, List.map_nil]); first | done | rfl | (simp only [List.length_drop, List.length_take]; rfl)) ?_; (with_reducible refine (iso_Part.calls _ _ l0 0 a1 t12007 t12010 _ ?side1 ?side2 A22.out).mono ?_); (case side1 => repeat (first | exact (Kd.C_below HR0.out HB.out) | (with_reducible refine Kd.C_alloc ?_ _) | (with_reducible refine Kd.C_drewN ?_ _) | (with_reducible refine Kd.C_drew ?_))); (case side2 => exact HC0.out); rintro e w56 ⟨v12008, rfl, ho0, hb⟩; refine ⟨_, rfl, ?_⟩; have n0_ := Aside0.mk (Kd.R_lower ho0 (below_size (by repeat (first | (with_reducible first | exact HB.out | apply below_alloc | apply pw_below_drewN | apply below_drew1) | exact HB.out)))); have n1_ := Aside0.mk (below_step (by repeat (first | (with_reducible first | exact HB.out | apply below_alloc | apply pw_below_drewN | apply below_drew1) | exact HB.out)) hb); clear HB; have HO12009 := n0_; have HB := n1_; clear n0_ n1_; (try clear hb); (try clear hb2); (try clear hk); (try clear hi); (try clear ho0)) | ((with_reducible refine gate_callee (f := 36) rfl ?_); refine goesL_ (some 58) rfl rfl Try.func36 (by kernel_rfl) rfl #[.slice A0 l0.length c0, .agg #[.int .i64 a1, .int .i64 t12004]] rfl (by (try simp only [List.map_toArray, List.map_cons, List.map_nil]); first | done | rfl | (simp only [List.length_drop, List.length_take]; rfl)) ?_; (with_reducible refine (iso_Part.calls _ _ l0 a1 t12004 t12011 t12014 _ ?side1 ?side2 A23.out).mono ?_); (case side1 => repeat (first | exact (Kd.C_below HR0.out HB.out) | (with_reducible refine Kd.C_alloc ?_ _) | (with_reducible refine Kd.C_drewN ?_ _) | (with_reducible refine Kd.C_drew ?_))); (case side2 => exact HC0.out); rintro e w57 ⟨v12012, rfl, ho0, hb⟩; refine ⟨_, rfl, ?_⟩; have n0_ := Aside0.mk (Kd.R_elder' (by (with_reducible repeat (first | apply Kd.R_alloc | apply Kd.R_drewN | apply Kd.R_drew)); exact HO12009.out) (Kd.R_base ho0) hb); have n1_ := Aside0.mk (Kd.R_lower (Kd.R_new' ho0 (Kd.R_lt (by (with_reducible repeat (first | apply Kd.R_alloc | apply Kd.R_drewN | apply Kd.R_drew)); exact HO12009.out))) (below_size (by repeat (first | (with_reducible first | exact HB.out | apply below_alloc | apply pw_below_drewN | apply below_drew1) | exact HB.out)))); have n2_ := Aside0.mk (below_step (by repeat (first | (with_reducible first | exact HB.out | apply below_alloc | apply pw_below_drewN | apply below_drew1) | exact HB.out)) hb); clear HO12009; clear HB; have HO12009 := n0_; have HO12013 := n1_; have HB := n2_; clear n0_ n1_ n2_; (try clear hb); (try clear hb2); (try clear hk); (try clear hi); (try clear ho0); obtain ⟨Ao58, co58, eo58⟩ := Kd.R_slice HO12009.out; subst eo58; obtain ⟨Ao59, co59, eo59⟩ := Kd.R_slice HO12013.out; subst eo59) | ((with_reducible refine gate_callee (f := 38) rfl ?_); refine goesL_ (some 64) rfl rfl Try.func38 (by kernel_rfl) rfl #[.slice Ao58 t12007.length co58, .slice Ao59 t12011.length co59] rfl (by (try simp only [List.map_toArray, List.map_cons, List.map_nil]); first | done | rfl | (simp only [List.length_drop, List.length_take]; rfl)) ?_; (with_reducible refine (iso_Join.calls _ _ t12007 _ _ t12011 t12015 t12016 _ ?side1 ?side2 ?side3 ?side4 A24.out).mono ?_); (case side1 => repeat (first | exact (Kd.R_reads' HO12009.out).2.2 | (with_reducible refine Kd.C_alloc ?_ _) | (with_reducible refine Kd.C_drewN ?_ _) | (with_reducible refine Kd.C_drew ?_))); (case side2 => exact (Kd.R_reads' HO12009.out).2.1); (case side3 => repeat (first | exact (Kd.R_reads' HO12013.out).2.2 | (with_reducible refine Kd.C_alloc ?_ _) | (with_reducible refine Kd.C_drewN ?_ _) | (with_reducible refine Kd.C_drew ?_))); (case side4 => exact (Kd.R_reads' HO12013.out).2.1); rintro e w60 ⟨v12017, rfl, ho0, hb⟩; refine ⟨_, rfl, ?_⟩; have n0_ := Aside0.mk (Kd.R_elder' (by (with_reducible repeat (first | apply Kd.R_alloc | apply Kd.R_drewN | apply Kd.R_drew)); exact HO12009.out) (Kd.R_base ho0) hb); have n1_ := Aside0.mk (Kd.R_elder' (by (with_reducible repeat (first | apply Kd.R_alloc | apply Kd.R_drewN | apply Kd.R_drew)); exact HO12013.out) (Kd.R_base ho0) hb); have n2_ := Aside0.mk (Kd.R_lower (Kd.R_new' (Kd.R_new' ho0 (Kd.R_lt (by (with_reducible repeat (first | apply Kd.R_alloc | apply Kd.R_drewN | apply Kd.R_drew)); exact HO12009.out))) (Kd.R_lt (by (with_reducible repeat (first | apply Kd.R_alloc | apply Kd.R_drewN | apply Kd.R_drew)); exact HO12013.out))) (below_size (by repeat (first | (with_reducible first | exact HB.out | apply below_alloc | apply pw_below_drewN | apply below_drew1) | exact HB.out)))); have n3_ := Aside0.mk (below_step (by repeat (first | (with_reducible first | exact HB.out | apply below_alloc | apply pw_below_drewN | apply below_drew1) | exact HB.out)) hb); clear HO12009; clear HO12013; clear HB; have HO12009 := n0_; have HO12013 := n1_; have HO12018 := n2_; have HB := n3_; clear n0_ n1_ n2_ n3_; (try clear hb); (try clear hb2); (try clear hk); (try clear hi); (try clear ho0)) | ((with_reducible refine gate_callee (f := 21) rfl ?_); refine goesL_ (some 69) rfl rfl Try.func21 (by kernel_rfl) rfl #[.slice A0 l0.length c0] rfl (by (try simp only [List.map_toArray, List.map_cons, List.map_nil]); first | done | rfl | (simp only [List.length_drop, List.length_take]; rfl)) ?_; (with_reducible refine (iso_Norm.calls _ _ l0 t12019 t12020 _ ?side1 ?side2 A25.out).mono ?_); (case side1 => repeat (first | exact (Kd.C_below HR0.out HB.out) | (with_reducible refine Kd.C_alloc ?_ _) | (with_reducible refine Kd.C_drewN ?_ _) | (with_reducible refine Kd.C_drew ?_))); (case side2 => exact HC0.out); rintro e w61 ⟨v12021, rfl, ho0, hb⟩; refine ⟨_, rfl, ?_⟩; have n0_ := Aside0.mk (Kd.R_elder' (by (with_reducible repeat (first | apply Kd.R_alloc | apply Kd.R_drewN | apply Kd.R_drew)); exact HO12009.out) (Kd.R_base ho0) hb); have n1_ := Aside0.mk (Kd.R_elder' (by (with_reducible repeat (first | apply Kd.R_alloc | apply Kd.R_drewN | apply Kd.R_drew)); exact HO12013.out) (Kd.R_base ho0) hb); have n2_ := Aside0.mk (Kd.R_elder' (by (with_reducible repeat (first | apply Kd.R_alloc | apply Kd.R_drewN | apply Kd.R_drew)); exact HO12018.out) (Kd.R_base ho0) hb); have n3_ := Aside0.mk (Kd.R_lower (Kd.R_new' (Kd.R_new' (Kd.R_new' ho0 (Kd.R_lt (by (with_reducible repeat (first | apply Kd.R_alloc | apply Kd.R_drewN | apply Kd.R_drew)); exact HO12009.out))) (Kd.R_lt (by (with_reducible repeat (first | apply Kd.R_alloc | apply Kd.R_drewN | apply Kd.R_drew)); exact HO12013.out))) (Kd.R_lt (by (with_reducible repeat (first | apply Kd.R_alloc | apply Kd.R_drewN | apply Kd.R_drew)); exact HO12018.out))) (below_size (by repeat (first | (with_reducible first | exact HB.out | apply below_alloc | apply pw_below_drewN | apply below_drew1) | exact HB.out)))); have n4_ := Aside0.mk (below_step (by repeat (first | (with_reducible first | exact HB.out | apply below_alloc | apply pw_below_drewN | apply below_drew1) | exact HB.out)) hb); clear HO12009; clear HO12013; clear HO12018; clear HB; have HO12009 := n0_; have HO12013 := n1_; have HO12018 := n2_; have HO12022 := n3_; have HB := n4_; clear n0_ n1_ n2_ n3_ n4_; (try clear hb); (try clear hb2); (try clear hk); (try clear hi); (try clear ho0)))
             go_ret
             exact ⟨by first | rfl | (simp [errW_none, errW_some] <;> rfl) | (simp [*, errW_none, errW_some] <;> rfl), by repeat (first | (with_reducible first | exact HB.out | apply below_alloc | apply pw_below_drewN | apply below_drew1) | exact HB.out)⟩
           ·rw [if_neg c27] at H
            have c27b0 : (t12014 == 0) = false := beq_eq_false_iff_ne.mpr c27
            have c27b1 : (t12014 != 0) = true := bne_iff_ne.mpr c27
            obtain rfl := Option.some.inj H
            go_wp2_with (first | ((with_reducible refine gate_callee (f := 36) rfl ?_); refine goesL_ (some 50) rfl rfl Try.func36 (by kernel_rfl) rfl #[.slice A0 l0.length c0, .agg #[.int .i64 0, .int .i64 a1]] rfl (by (try simp only [List.map_toArray, List.map_cons, List.map_nil]); first | done | rfl | (simp only [List.length_drop, List.length_take]; rfl)) ?_; (with_reducible refine (iso_Part.calls _ _ l0 0 a1 t12007 t12010 _ ?side1 ?side2 A22.out).mono ?_); (case side1 => repeat (first | exact (Kd.C_below HR0.out HB.out) | (with_reducible refine Kd.C_alloc ?_ _) | (with_reducible refine Kd.C_drewN ?_ _) | (with_reducible refine Kd.C_drew ?_))); (case side2 => exact HC0.out); rintro e w62 ⟨v12008, rfl, ho0, hb⟩; refine ⟨_, rfl, ?_⟩; have n0_ := Aside0.mk (Kd.R_lower ho0 (below_size (by repeat (first | (with_reducible first | exact HB.out | apply below_alloc | apply pw_below_drewN | apply below_drew1) | exact HB.out)))); have n1_ := Aside0.mk (below_step (by repeat (first | (with_reducible first | exact HB.out | apply below_alloc | apply pw_below_drewN | apply below_drew1) | exact HB.out)) hb); clear HB; have HO12009 := n0_; have HB := n1_; clear n0_ n1_; (try clear hb); (try clear hb2); (try clear hk); (try clear hi); (try clear ho0)) | ((with_reducible refine gate_callee (f := 36) rfl ?_); refine goesL_ (some 58) rfl rfl Try.func36 (by kernel_rfl) rfl #[.slice A0 l0.length c0, .agg #[.int .i64 a1, .int .i64 t12004]] rfl (by (try simp only [List.map_toArray, List.map_cons, List.map_nil]); first | done | rfl | (simp only [List.length_drop, List.length_take]; rfl)) ?_; (with_reducible refine (iso_Part.calls _ _ l0 a1 t12004 t12011 t12014 _ ?side1 ?side2 A23.out).mono ?_); (case side1 => repeat (first | exact (Kd.C_below HR0.out HB.out) | (with_reducible refine Kd.C_alloc ?_ _) | (with_reducible refine Kd.C_drewN ?_ _) | (with_reducible refine Kd.C_drew ?_))); (case side2 => exact HC0.out); rintro e w63 ⟨v12012, rfl, ho0, hb⟩; refine ⟨_, rfl, ?_⟩; have n0_ := Aside0.mk (Kd.R_elder' (by (with_reducible repeat (first | apply Kd.R_alloc | apply Kd.R_drewN | apply Kd.R_drew)); exact HO12009.out) (Kd.R_base ho0) hb); have n1_ := Aside0.mk (Kd.R_lower (Kd.R_new' ho0 (Kd.R_lt (by (with_reducible repeat (first | apply Kd.R_alloc | apply Kd.R_drewN | apply Kd.R_drew)); exact HO12009.out))) (below_size (by repeat (first | (with_reducible first | exact HB.out | apply below_alloc | apply pw_below_drewN | apply below_drew1) | exact HB.out)))); have n2_ := Aside0.mk (below_step (by repeat (first | (with_reducible first | exact HB.out | apply below_alloc | apply pw_below_drewN | apply below_drew1) | exact HB.out)) hb); clear HO12009; clear HB; have HO12009 := n0_; have HO12013 := n1_; have HB := n2_; clear n0_ n1_ n2_; (try clear hb); (try clear hb2); (try clear hk); (try clear hi); (try clear ho0); obtain ⟨Ao64, co64, eo64⟩ := Kd.R_slice HO12009.out; subst eo64; obtain ⟨Ao65, co65, eo65⟩ := Kd.R_slice HO12013.out; subst eo65) | ((with_reducible refine gate_callee (f := 38) rfl ?_); refine goesL_ (some 64) rfl rfl Try.func38 (by kernel_rfl) rfl #[.slice Ao64 t12007.length co64, .slice Ao65 t12011.length co65] rfl (by (try simp only [List.map_toArray, List.map_cons, List.map_nil]); first | done | rfl | (simp only [List.length_drop, List.length_take]; rfl)) ?_; (with_reducible refine (iso_Join.calls _ _ t12007 _ _ t12011 t12015 t12016 _ ?side1 ?side2 ?side3 ?side4 A24.out).mono ?_); (case side1 => repeat (first | exact (Kd.R_reads' HO12009.out).2.2 | (with_reducible refine Kd.C_alloc ?_ _) | (with_reducible refine Kd.C_drewN ?_ _) | (with_reducible refine Kd.C_drew ?_))); (case side2 => exact (Kd.R_reads' HO12009.out).2.1); (case side3 => repeat (first | exact (Kd.R_reads' HO12013.out).2.2 | (with_reducible refine Kd.C_alloc ?_ _) | (with_reducible refine Kd.C_drewN ?_ _) | (with_reducible refine Kd.C_drew ?_))); (case side4 => exact (Kd.R_reads' HO12013.out).2.1); rintro e w66 ⟨v12017, rfl, ho0, hb⟩; refine ⟨_, rfl, ?_⟩; have n0_ := Aside0.mk (Kd.R_elder' (by (with_reducible repeat (first | apply Kd.R_alloc | apply Kd.R_drewN | apply Kd.R_drew)); exact HO12009.out) (Kd.R_base ho0) hb); have n1_ := Aside0.mk (Kd.R_elder' (by (with_reducible repeat (first | apply Kd.R_alloc | apply Kd.R_drewN | apply Kd.R_drew)); exact HO12013.out) (Kd.R_base ho0) hb); have n2_ := Aside0.mk (Kd.R_lower (Kd.R_new' (Kd.R_new' ho0 (Kd.R_lt (by (with_reducible repeat (first | apply Kd.R_alloc | apply Kd.R_drewN | apply Kd.R_drew)); exact HO12009.out))) (Kd.R_lt (by (with_reducible repeat (first | apply Kd.R_alloc | apply Kd.R_drewN | apply Kd.R_drew)); exact HO12013.out))) (below_size (by repeat (first | (with_reducible first | exact HB.out | apply below_alloc | apply pw_below_drewN | apply below_drew1) | exact HB.out)))); have n3_ := Aside0.mk (below_step (by repeat (first | (with_reducible first | exact HB.out | apply below_alloc | apply pw_below_drewN | apply below_drew1) | exact HB.out)) hb); clear HO12009; clear HO12013; clear HB; have HO12009 := n0_; have HO12013 := n1_; have HO12018 := n2_; have HB := n3_; clear n0_ n1_ n2_ n3_; (try clear hb); (try clear hb2); (try clear hk); (try clear hi); (try clear ho0)) | ((with_reducible refine gate_callee (f := 21) rfl ?_); refine goesL_ (some 69) rfl rfl Try.func21 (by kernel_rfl) rfl #[.slice A0 l0.length c0] rfl (by (try simp only [List.map_toArray, List.map_cons, List.map_nil]); first | done | rfl | (simp only [List.length_drop, List.length_take]; rfl)) ?_; (with_reducible refine (iso_Norm.calls _ _ l0 t12019 t12020 _ ?side1 ?side2 A25.out).mono ?_); (case side1 => repeat (first | exact (Kd.C_below HR0.out HB.out) | (with_reducible refine Kd.C_alloc ?_ _) | (with_reducible refine Kd.C_drewN ?_ _) | (with_reducible refine Kd.C_drew ?_))); (case side2 => exact HC0.out); rintro e w67 ⟨v12021, rfl, ho0, hb⟩; refine ⟨_, rfl, ?_⟩; have n0_ := Aside0.mk (Kd.R_elder' (by (with_reducible repeat (first | apply Kd.R_alloc | apply Kd.R_drewN | apply Kd.R_drew)); exact HO12009.out) (Kd.R_base ho0) hb); have n1_ := Aside0.mk (Kd.R_elder' (by (with_reducible repeat (first | apply Kd.R_alloc | apply Kd.R_drewN | apply Kd.R_drew)); exact HO12013.out) (Kd.R_base ho0) hb); have n2_ := Aside0.mk (Kd.R_elder' (by (with_reducible repeat (first | apply Kd.R_alloc | apply Kd.R_drewN | apply Kd.R_drew)); exact HO12018.out) (Kd.R_base ho0) hb); have n3_ := Aside0.mk (Kd.R_lower (Kd.R_new' (Kd.R_new' (Kd.R_new' ho0 (Kd.R_lt (by (with_reducible repeat (first | apply Kd.R_alloc | apply Kd.R_drewN | apply Kd.R_drew)); exact HO12009.out))) (Kd.R_lt (by (with_reducible repeat (first | apply Kd.R_alloc | apply Kd.R_drewN | apply Kd.R_drew)); exact HO12013.out))) (Kd.R_lt (by (with_reducible repeat (first | apply Kd.R_alloc | apply Kd.R_drewN | apply Kd.R_drew)); exact HO12018.out))) (below_size (by repeat (first | (with_reducible first | exact HB.out | apply below_alloc | apply pw_below_drewN | apply below_drew1) | exact HB.out)))); have n4_ := Aside0.mk (below_step (by repeat (first | (with_reducible first | exact HB.out | apply below_alloc | apply pw_below_drewN | apply below_drew1) | exact HB.out)) hb); clear HO12009; clear HO12013; clear HO12018; clear HB; have HO12009 := n0_; have HO12013 := n1_; have HO12018 := n2_; have HO12022 := n3_; have HB := n4_; clear n0_ n1_ n2_ n3_ n4_; (try clear hb); (try clear hb2); (try clear hk); (try clear hi); (try clear ho0)))
            go_ret
            exact ⟨by first | rfl | (simp [errW_none, errW_some] <;> rfl) | (simp [*, errW_none, errW_some] <;> rfl), by repeat (first | (with_reducible first | exact HB.out | apply below_alloc | apply pw_below_drewN | apply below_drew1) | exact HB.out)⟩
          ·rw [if_neg c26] at H
           have c26b0 : (t12010 == 0) = false := beq_eq_false_iff_ne.mpr c26
           have c26b1 : (t12010 != 0) = true := bne_iff_ne.mpr c26
           obtain rfl := Option.some.inj H
           go_wp2_with (first | ((with_reducible refine gate_callee (f := 36) rfl ?_); refine goesL_ (some 50) rfl rfl Try.func36 (by kernel_rfl) rfl #[.slice A0 l0.length c0, .agg #[.int .i64 0, .int .i64 a1]] rfl (by (try simp only [List.map_toArray, List.map_cons, List.map_nil]); first | done | rfl | (simp only [List.length_drop, List.length_take]; rfl)) ?_; (with_reducible refine (iso_Part.calls _ _ l0 0 a1 t12007 t12010 _ ?side1 ?side2 A22.out).mono ?_); (case side1 => repeat (first | exact (Kd.C_below HR0.out HB.out) | (with_reducible refine Kd.C_alloc ?_ _) | (with_reducible refine Kd.C_drewN ?_ _) | (with_reducible refine Kd.C_drew ?_))); (case side2 => exact HC0.out); rintro e w68 ⟨v12008, rfl, ho0, hb⟩; refine ⟨_, rfl, ?_⟩; have n0_ := Aside0.mk (Kd.R_lower ho0 (below_size (by repeat (first | (with_reducible first | exact HB.out | apply below_alloc | apply pw_below_drewN | apply below_drew1) | exact HB.out)))); have n1_ := Aside0.mk (below_step (by repeat (first | (with_reducible first | exact HB.out | apply below_alloc | apply pw_below_drewN | apply below_drew1) | exact HB.out)) hb); clear HB; have HO12009 := n0_; have HB := n1_; clear n0_ n1_; (try clear hb); (try clear hb2); (try clear hk); (try clear hi); (try clear ho0)) | ((with_reducible refine gate_callee (f := 36) rfl ?_); refine goesL_ (some 58) rfl rfl Try.func36 (by kernel_rfl) rfl #[.slice A0 l0.length c0, .agg #[.int .i64 a1, .int .i64 t12004]] rfl (by (try simp only [List.map_toArray, List.map_cons, List.map_nil]); first | done | rfl | (simp only [List.length_drop, List.length_take]; rfl)) ?_; (with_reducible refine (iso_Part.calls _ _ l0 a1 t12004 t12011 t12014 _ ?side1 ?side2 A23.out).mono ?_); (case side1 => repeat (first | exact (Kd.C_below HR0.out HB.out) | (with_reducible refine Kd.C_alloc ?_ _) | (with_reducible refine Kd.C_drewN ?_ _) | (with_reducible refine Kd.C_drew ?_))); (case side2 => exact HC0.out); rintro e w69 ⟨v12012, rfl, ho0, hb⟩; refine ⟨_, rfl, ?_⟩; have n0_ := Aside0.mk (Kd.R_elder' (by (with_reducible repeat (first | apply Kd.R_alloc | apply Kd.R_drewN | apply Kd.R_drew)); exact HO12009.out) (Kd.R_base ho0) hb); have n1_ := Aside0.mk (Kd.R_lower (Kd.R_new' ho0 (Kd.R_lt (by (with_reducible repeat (first | apply Kd.R_alloc | apply Kd.R_drewN | apply Kd.R_drew)); exact HO12009.out))) (below_size (by repeat (first | (with_reducible first | exact HB.out | apply below_alloc | apply pw_below_drewN | apply below_drew1) | exact HB.out)))); have n2_ := Aside0.mk (below_step (by repeat (first | (with_reducible first | exact HB.out | apply below_alloc | apply pw_below_drewN | apply below_drew1) | exact HB.out)) hb); clear HO12009; clear HB; have HO12009 := n0_; have HO12013 := n1_; have HB := n2_; clear n0_ n1_ n2_; (try clear hb); (try clear hb2); (try clear hk); (try clear hi); (try clear ho0); obtain ⟨Ao70, co70, eo70⟩ := Kd.R_slice HO12009.out; subst eo70; obtain ⟨Ao71, co71, eo71⟩ := Kd.R_slice HO12013.out; subst eo71) | ((with_reducible refine gate_callee (f := 38) rfl ?_); refine goesL_ (some 64) rfl rfl Try.func38 (by kernel_rfl) rfl #[.slice Ao70 t12007.length co70, .slice Ao71 t12011.length co71] rfl (by (try simp only [List.map_toArray, List.map_cons, List.map_nil]); first | done | rfl | (simp only [List.length_drop, List.length_take]; rfl)) ?_; (with_reducible refine (iso_Join.calls _ _ t12007 _ _ t12011 t12015 t12016 _ ?side1 ?side2 ?side3 ?side4 A24.out).mono ?_); (case side1 => repeat (first | exact (Kd.R_reads' HO12009.out).2.2 | (with_reducible refine Kd.C_alloc ?_ _) | (with_reducible refine Kd.C_drewN ?_ _) | (with_reducible refine Kd.C_drew ?_))); (case side2 => exact (Kd.R_reads' HO12009.out).2.1); (case side3 => repeat (first | exact (Kd.R_reads' HO12013.out).2.2 | (with_reducible refine Kd.C_alloc ?_ _) | (with_reducible refine Kd.C_drewN ?_ _) | (with_reducible refine Kd.C_drew ?_))); (case side4 => exact (Kd.R_reads' HO12013.out).2.1); rintro e w72 ⟨v12017, rfl, ho0, hb⟩; refine ⟨_, rfl, ?_⟩; have n0_ := Aside0.mk (Kd.R_elder' (by (with_reducible repeat (first | apply Kd.R_alloc | apply Kd.R_drewN | apply Kd.R_drew)); exact HO12009.out) (Kd.R_base ho0) hb); have n1_ := Aside0.mk (Kd.R_elder' (by (with_reducible repeat (first | apply Kd.R_alloc | apply Kd.R_drewN | apply Kd.R_drew)); exact HO12013.out) (Kd.R_base ho0) hb); have n2_ := Aside0.mk (Kd.R_lower (Kd.R_new' (Kd.R_new' ho0 (Kd.R_lt (by (with_reducible repeat (first | apply Kd.R_alloc | apply Kd.R_drewN | apply Kd.R_drew)); exact HO12009.out))) (Kd.R_lt (by (with_reducible repeat (first | apply Kd.R_alloc | apply Kd.R_drewN | apply Kd.R_drew)); exact HO12013.out))) (below_size (by repeat (first | (with_reducible first | exact HB.out | apply below_alloc | apply pw_below_drewN | apply below_drew1) | exact HB.out)))); have n3_ := Aside0.mk (below_step (by repeat (first | (with_reducible first | exact HB.out | apply below_alloc | apply pw_below_drewN | apply below_drew1) | exact HB.out)) hb); clear HO12009; clear HO12013; clear HB; have HO12009 := n0_; have HO12013 := n1_; have HO12018 := n2_; have HB := n3_; clear n0_ n1_ n2_ n3_; (try clear hb); (try clear hb2); (try clear hk); (try clear hi); (try clear ho0)) | ((with_reducible refine gate_callee (f := 21) rfl ?_); refine goesL_ (some 69) rfl rfl Try.func21 (by kernel_rfl) rfl #[.slice A0 l0.length c0] rfl (by (try simp only [List.map_toArray, List.map_cons, List.map_nil]); first | done | rfl | (simp only [List.length_drop, List.length_take]; rfl)) ?_; (with_reducible refine (iso_Norm.calls _ _ l0 t12019 t12020 _ ?side1 ?side2 A25.out).mono ?_); (case side1 => repeat (first | exact (Kd.C_below HR0.out HB.out) | (with_reducible refine Kd.C_alloc ?_ _) | (with_reducible refine Kd.C_drewN ?_ _) | (with_reducible refine Kd.C_drew ?_))); (case side2 => exact HC0.out); rintro e w73 ⟨v12021, rfl, ho0, hb⟩; refine ⟨_, rfl, ?_⟩; have n0_ := Aside0.mk (Kd.R_elder' (by (with_reducible repeat (first | apply Kd.R_alloc | apply Kd.R_drewN | apply Kd.R_drew)); exact HO12009.out) (Kd.R_base ho0) hb); have n1_ := Aside0.mk (Kd.R_elder' (by (with_reducible repeat (first | apply Kd.R_alloc | apply Kd.R_drewN | apply Kd.R_drew)); exact HO12013.out) (Kd.R_base ho0) hb); have n2_ := Aside0.mk (Kd.R_elder' (by (with_reducible repeat (first | apply Kd.R_alloc | apply Kd.R_drewN | apply Kd.R_drew)); exact HO12018.out) (Kd.R_base ho0) hb); have n3_ := Aside0.mk (Kd.R_lower (Kd.R_new' (Kd.R_new' (Kd.R_new' ho0 (Kd.R_lt (by (with_reducible repeat (first | apply Kd.R_alloc | apply Kd.R_drewN | apply Kd.R_drew)); exact HO12009.out))) (Kd.R_lt (by (with_reducible repeat (first | apply Kd.R_alloc | apply Kd.R_drewN | apply Kd.R_drew)); exact HO12013.out))) (Kd.R_lt (by (with_reducible repeat (first | apply Kd.R_alloc | apply Kd.R_drewN | apply Kd.R_drew)); exact HO12018.out))) (below_size (by repeat (first | (with_reducible first | exact HB.out | apply below_alloc | apply pw_below_drewN | apply below_drew1) | exact HB.out)))); have n4_ := Aside0.mk (below_step (by repeat (first | (with_reducible first | exact HB.out | apply below_alloc | apply pw_below_drewN | apply below_drew1) | exact HB.out)) hb); clear HO12009; clear HO12013; clear HO12018; clear HB; have HO12009 := n0_; have HO12013 := n1_; have HO12018 := n2_; have HO12022 := n3_; have HB := n4_; clear n0_ n1_ n2_ n3_ n4_; (try clear hb); (try clear hb2); (try clear hk); (try clear hi); (try clear ho0)))
           go_ret
           exact ⟨by first | rfl | (simp [errW_none, errW_some] <;> rfl) | (simp [*, errW_none, errW_some] <;> rfl), by repeat (first | (with_reducible first | exact HB.out | apply below_alloc | apply pw_below_drewN | apply below_drew1) | exact HB.out)⟩

end Go.Proofs.Ytcnkmdonbpgjiaa.G

namespace Go.Proofs.Ytcnkmdonbpgjiaa.G
open Go.RowKit Go.Proofs.YtcnkmdonbpgjiaaW.PrintWords Go.Proofs.YtcnkmdonbpgjiaaW.PrintLast Go.Proofs.YtcnkmdonbpgjiaaW.PrintMore
set_option linter.unusedVariables false
set_option linter.unusedSimpArgs false
def fitX (xs : List Int) : Prop := ∀ x ∈ xs, 0 ≤ x ∧ x < 17179869184
theorem img_in {r : S32} (h : ¬ badR r) (i : Int) (h0 : 0 ≤ i) (h1 : i < r.f1) : 0 ≤ img r i ∧ img r i < 17179869184 := by
  unfold badR at h
  unfold img
  cases hb : r.f2 <;> simp [hb] at h ⊢ <;> omega
theorem sem_fit {l : List S32} (h : ∀ r ∈ l, ¬ badR r) : fitX (sem l) := by
  intro x hx
  obtain ⟨r, hr, hx⟩ := List.mem_flatMap.mp hx
  simp only [imgs, List.mem_map, List.mem_range] at hx
  obtain ⟨i, hi, rfl⟩ := hx
  exact img_in (h r hr) i (by omega) (by omega)
theorem mem_sem {l : List S32} {t : S32} (h : t ∈ l) (i : Nat) (hi : (i : Int) < t.f1) : img t i ∈ sem l := by
  refine List.mem_flatMap.mpr ⟨t, h, ?_⟩
  exact List.mem_iff_getElem?.mpr ⟨i, imgs_get t i hi⟩
theorem len_sem_mem {l : List S32} {t : S32} (h : t ∈ l) : t.f1.toNat ≤ (sem l).length := by
  induction l with
  | nil => simp at h
  | cons r l ih =>
    rw [sem_cons, List.length_append, imgs_len]
    rcases List.mem_cons.mp h with rfl | h
    · omega
    · have := ih h; omega
theorem check_nrm (xs : List Int) (h : fitX xs) (hl : xs.length ≤ 17179869184) (hn : (nrm xs).length ≤ 256) : check13 (nrm xs) = 0 := by
  have hok := nrm_ok xs
  have hg : ∀ t ∈ nrm xs, ¬ badR t := by
    intro t ht
    have h1 := (hok t ht).1
    have m0 := mem_sem ht 0 (by omega)
    have m1 := mem_sem ht (t.f1 - 1).toNat (by omega)
    have hlen := len_sem_mem ht
    rw [sem_nrm] at m0 m1 hlen
    have b0 := h _ m0
    have b1 := h _ m1
    rw [show (((t.f1 - 1).toNat : Nat) : Int) = t.f1 - 1 by omega] at b1
    unfold img at b0 b1
    unfold badR
    cases hb : t.f2 <;> simp [hb] at b0 b1 ⊢ <;> omega
  have ht := sem_len (nrm xs) (fun r hr => by have := (hok r hr).1; omega)
  rw [sem_nrm] at ht
  unfold check13
  rw [if_neg (by omega), if_neg, if_neg (by omega)]
  intro hb
  obtain ⟨t, ht2, hb⟩ := List.any_eq_true.mp hb
  exact hg t ht2 (by simpa using hb)
theorem tot_nrm (xs : List Int) : tot13 (nrm xs) = xs.length := by
  rw [← sem_len (nrm xs) (fun r hr => by have := (nrm_ok xs r hr).1; omega), sem_nrm]
theorem sem_small {l : List S32} (h : check13 l = 0) : (sem l).length ≤ 17179869184 := by
  have h1 := sem_tot h
  have h2 := (check13_zero h).2.2
  omega
theorem nrm_few {l : List S32} (h : check13 l = 0) : (nrm (sem l)).length ≤ l.length :=
  nrm_len l (fun r hr => (fit_of ((check13_zero h).2.1 r hr)).2.2.1)
theorem nrm_fair {l : List S32} (h : check13 l = 0) : check13 (nrm (sem l)) = 0 :=
  check_nrm _ (sem_fit (check13_zero h).2.1) (sem_small h) (by have := nrm_few h; have := (check13_zero h).1; omega)
theorem rev_few {l : List S32} (h : check13 l = 0) : (nrm (sem l).reverse).length ≤ l.length := by
  have hp : ∀ r ∈ l, 1 ≤ r.f1 := fun r hr => (fit_of ((check13_zero h).2.1 r hr)).2.2.1
  have := nrm_len (revL l) (revL_pos l hp)
  rw [sem_rev l hp, revL_len] at this
  exact this
theorem rev_fair {l : List S32} (h : check13 l = 0) : check13 (nrm (sem l).reverse) = 0 :=
  check_nrm _ (fun x hx => sem_fit (check13_zero h).2.1 x (List.mem_reverse.mp hx)) (by rw [List.length_reverse]; exact sem_small h) (by have := rev_few h; have := (check13_zero h).1; omega)
theorem normOf_nrm {l : List S32} (h : check13 l = 0) : normOf (nrm (sem l)) = (nrm (sem l), 0) := by unfold normOf; rw [if_pos (nrm_fair h), sem_nrm]
theorem at_nrm {l : List S32} (h : check13 l = 0) (x : Int) : atOf13 (nrm (sem l)) x = atOf13 l x := by
  unfold atOf13
  rw [if_pos (nrm_fair h), if_pos h, tot_nrm, ← sem_tot h, sem_nrm]
theorem rsame13_l0 (l : List S32) (hl : l.length ≤ 1000000) : ∀ (d i : Nat), l.length - i = d → i ≤ l.length → Ends (fun k => papermillref13_Same.l0 k l l (i : Int)) true := by
  intro d
  induction d with
  | zero =>
    intro i hd hi
    refine Ends.succ ?_
    simp only [papermillref13_Same.l0]
    exact Ends.neg (by omega) (Ends.ret _)
  | succ d ih =>
    intro i hd hi
    refine Ends.succ ?_
    simp only [papermillref13_Same.l0, wrap_nat i (by omega)]
    exact Ends.pos (by omega) (Ends.pos (by omega) (Ends.pos (by omega) (Ends.neg (by simp) (ih (i + 1) (by omega) (by omega)))))
theorem rsame13_ends (l : List S32) (hl : l.length ≤ 1000000) : Ends (fun k => papermillref13_Same.f k l l) true := by
  unfold papermillref13_Same.f
  exact Ends.pos rfl (rsame13_l0 l hl _ 0 rfl (by omega))
end Go.Proofs.Ytcnkmdonbpgjiaa.G
