import Derived.Test.YtcnkmdonbpgjiaaQ1
import Derived.Test.YtcnkmdonbpgjiaaQ4
import Derived.Test.YtcnkmdonbpgjiaaQ3
import Derived.ArgAppend
namespace Go.Proofs.Ytcnkmdonbpgjiaa.G
open Go.RowKit Go.Proofs.YtcnkmdonbpgjiaaW.PrintWords Go.Proofs.YtcnkmdonbpgjiaaW.PrintLast Go.Proofs.YtcnkmdonbpgjiaaW.PrintMore
attribute [local go_sem] max2_int min2_int max_two min_two max_three min_three max_four min_four   -- for this text's walks alone
set_option linter.unusedVariables false
set_option linter.unusedSimpArgs false

def papermilllaw13_at.f (l0 : List (S32)) (a1 : Int) : Option (Int) := (iso_At.f l0 a1).bind fun bt24001 => (if bt24001.2 = 0 then (some bt24001.1) else (some (-1)))
set_option maxHeartbeats 8000000 in
set_option maxRecDepth 100000 in
theorem papermilllaw13_at.calls (A0 : Option Addr) (c0 : Nat) (l0 : List (S32)) (a1 : Int) (r : Int) (w : World) (hr0 : Kd.C k32 w A0 l0.length l0) (hc0 : l0.length ≤ c0) (h : papermilllaw13_at.f l0 a1 = some r) :
  Calls Try.prog 23 #[.slice A0 l0.length c0, .int .i64 a1] w fun e w' => e = .returned (.int .i64 r) ∧ Below w.heap.size w w' := by
 have HR0 := Aside0.mk hr0
 have HC0 := Aside0.mk hc0
 clear hr0 hc0
 have HB := Aside0.mk (Below.refl w.heap.size w)
 have H : ((iso_At.f l0 a1).bind fun bt24001 => (if bt24001.2 = 0 then (some bt24001.1) else (some (-1)))) = some r := h
 clear h
 replace H := Option.bind_eq_some_iff.mp H
 obtain ⟨⟨t24001, t24002⟩, A30, H⟩ := H
 replace H : (if t24002 = 0 then (some t24001) else (some (-1))) = some r := H
 have A3 := Aside0.mk A30
 clear A30
 by_cases c4 : t24002 = 0
 ·rw [if_pos c4] at H
  have c4b0 : (t24002 == 0) = true := beq_iff_eq.mpr c4
  have c4b1 : (t24002 != 0) = false := bne_eq_false_iff_eq.mpr c4
  clear c4
  obtain rfl := Option.some.inj H
  go_enter Try.func23, Try.ntmps23
  go_wp2_with (first | ((with_reducible refine gate_callee (f := 26) rfl ?_); refine goesL_ (some 10) rfl rfl Try.func26 (by kernel_rfl) rfl #[.slice A0 l0.length c0, .int .i64 a1] rfl (by (try simp only [List.map_toArray, List.map_cons, List.map_nil]); first | done | rfl | (simp only [List.length_drop, List.length_take]; rfl)) ?_; (with_reducible refine (iso_At.calls _ _ l0 a1 t24001 t24002 _ ?side1 ?side2 A3.out).mono ?_); (case side1 => exact HR0.out); (case side2 => exact HC0.out); rintro e w5 ⟨rfl, hb⟩; refine ⟨_, rfl, ?_⟩; have n0_ := Aside0.mk (below_step (by repeat (first | exact HB.out | apply below_alloc | apply pw_below_drewN | apply below_drew1)) hb); clear HB; have HB := n0_; clear n0_; (try clear hb); (try clear hb2); (try clear hk); (try clear hi)))
  go_ret
  exact ⟨by first | rfl | (simp [errW_none, errW_some] <;> rfl) | (simp [*, errW_none, errW_some] <;> rfl), by repeat (first | exact HB.out | apply below_alloc | apply pw_below_drewN | apply below_drew1)⟩
 ·rw [if_neg c4] at H
  have c4b0 : (t24002 == 0) = false := beq_eq_false_iff_ne.mpr c4
  have c4b1 : (t24002 != 0) = true := bne_iff_ne.mpr c4
  obtain rfl := Option.some.inj H
  go_enter Try.func23, Try.ntmps23
  go_wp2_with (first | ((with_reducible refine gate_callee (f := 26) rfl ?_); refine goesL_ (some 10) rfl rfl Try.func26 (by kernel_rfl) rfl #[.slice A0 l0.length c0, .int .i64 a1] rfl (by (try simp only [List.map_toArray, List.map_cons, List.map_nil]); first | done | rfl | (simp only [List.length_drop, List.length_take]; rfl)) ?_; (with_reducible refine (iso_At.calls _ _ l0 a1 t24001 t24002 _ ?side1 ?side2 A3.out).mono ?_); (case side1 => exact HR0.out); (case side2 => exact HC0.out); rintro e w6 ⟨rfl, hb⟩; refine ⟨_, rfl, ?_⟩; have n0_ := Aside0.mk (below_step (by repeat (first | exact HB.out | apply below_alloc | apply pw_below_drewN | apply below_drew1)) hb); clear HB; have HB := n0_; clear n0_; (try clear hb); (try clear hb2); (try clear hk); (try clear hi)))
  go_ret
  exact ⟨by first | rfl | (simp [errW_none, errW_some] <;> rfl) | (simp [*, errW_none, errW_some] <;> rfl), by repeat (first | exact HB.out | apply below_alloc | apply pw_below_drewN | apply below_drew1)⟩

end Go.Proofs.Ytcnkmdonbpgjiaa.G

namespace Go.Proofs.Ytcnkmdonbpgjiaa.G
open Go.RowKit Go.Proofs.YtcnkmdonbpgjiaaW.PrintWords Go.Proofs.YtcnkmdonbpgjiaaW.PrintLast Go.Proofs.YtcnkmdonbpgjiaaW.PrintMore
attribute [local go_sem] max2_int min2_int max_two min_two max_three min_three max_four min_four   -- for this text's walks alone
set_option linter.unusedVariables false
set_option linter.unusedSimpArgs false

def iso_Length.f (k : Nat) (l0 : List (S32)) : Option (Int × Int) := (iso_Check.f k l0).bind fun t25001 => (if t25001 = 0 then ((iso_length.f k l0).bind fun t25002 => (some (t25002, 0))) else (some (0, t25001)))
theorem iso_Length.mono : ∀ a0 k, LeO (iso_Length.f k a0) (iso_Length.f (k + 1) a0) := by
 intro a0 k
 unfold iso_Length.f
 repeat' first
   | (with_reducible exact iso_Check.mono _ _)
   | (with_reducible exact iso_length.mono _ _)
   | (with_reducible exact LeO.refl _)
   | (with_reducible exact LeO.none _)
   | (with_reducible refine LeO.ite ?_ ?_)
   | (with_reducible refine LeO.bind ?_ (fun _ => ?_))
   | exact iso_Check.mono _ _
   | exact iso_length.mono _ _
   | exact LeO.none _
   | refine LeO.ite ?_ ?_
   | refine LeO.bind ?_ (fun _ => ?_)
set_option maxHeartbeats 8000000 in
set_option maxRecDepth 100000 in
theorem iso_Length.calls (k : Nat) (A0 : Option Addr) (c0 : Nat) (l0 : List (S32)) (r1 : Int) (r2 : Int) (w : World) (hr0 : Kd.C k32 w A0 l0.length l0) (hc0 : l0.length ≤ c0) (h : iso_Length.f k l0 = some (r1, r2)) :
  Calls Try.prog 24 #[.slice A0 l0.length c0] w fun e w' => e = .returned (.tuple #[.int .i64 r1, .int .i64 r2]) ∧ Below w.heap.size w w' := by
 have HR0 := Aside0.mk hr0
 have HC0 := Aside0.mk hc0
 clear hr0 hc0
 have HB := Aside0.mk (Below.refl w.heap.size w)
 have H : ((iso_Check.f k l0).bind fun t25001 => (if t25001 = 0 then ((iso_length.f k l0).bind fun t25002 => (some (t25002, 0))) else (some (0, t25001)))) = some (r1, r2) := h
 clear h
 replace H := Option.bind_eq_some_iff.mp H
 obtain ⟨t25001, A20, H⟩ := H
 replace H : (if t25001 = 0 then ((iso_length.f k l0).bind fun t25002 => (some (t25002, 0))) else (some (0, t25001))) = some (r1, r2) := H
 have A2 := Aside0.mk A20
 clear A20
 by_cases c3 : t25001 = 0
 ·rw [if_pos c3] at H
  have c3b0 : (t25001 == 0) = true := beq_iff_eq.mpr c3
  have c3b1 : (t25001 != 0) = false := bne_eq_false_iff_eq.mpr c3
  clear c3
  replace H := Option.bind_eq_some_iff.mp H
  obtain ⟨t25002, A40, H⟩ := H
  replace H : (some (t25002, 0)) = some (r1, r2) := H
  have A4 := Aside0.mk A40
  clear A40
  simp only [Option.some.injEq, Prod.mk.injEq] at H
  obtain ⟨rfl, rfl⟩ := H
  go_enter Try.func24, Try.ntmps24
  go_wp2_with (first | ((with_reducible refine gate_callee (f := 14) rfl ?_); refine goesL_ (some 6) rfl rfl Try.func14 (by kernel_rfl) rfl #[.slice A0 l0.length c0] rfl (by (try simp only [List.map_toArray, List.map_cons, List.map_nil]); first | done | rfl | (simp only [List.length_drop, List.length_take]; rfl)) ?_; (with_reducible refine (iso_Check.calls k _ _ l0 t25001 _ ?side1 ?side2 A2.out).mono ?_); (case side1 => exact HR0.out); (case side2 => exact HC0.out); rintro e w5 ⟨rfl, hb⟩; refine ⟨_, rfl, ?_⟩; have n0_ := Aside0.mk (below_step (by repeat (first | exact HB.out | apply below_alloc | apply pw_below_drewN | apply below_drew1)) hb); clear HB; have HB := n0_; clear n0_; (try clear hb); (try clear hb2); (try clear hk); (try clear hi)) | ((with_reducible refine gate_callee (f := 43) rfl ?_); refine goesL_ (some 11) rfl rfl Try.func43 (by kernel_rfl) rfl #[.slice A0 l0.length c0] rfl (by (try simp only [List.map_toArray, List.map_cons, List.map_nil]); first | done | rfl | (simp only [List.length_drop, List.length_take]; rfl)) ?_; (with_reducible refine (iso_length.calls k _ _ l0 t25002 _ ?side1 ?side2 A4.out).mono ?_); (case side1 => exact (Kd.C_below HR0.out HB.out)); (case side2 => exact HC0.out); rintro e w6 ⟨rfl, hb⟩; refine ⟨_, rfl, ?_⟩; have n0_ := Aside0.mk (below_step (by repeat (first | exact HB.out | apply below_alloc | apply pw_below_drewN | apply below_drew1)) hb); clear HB; have HB := n0_; clear n0_; (try clear hb); (try clear hb2); (try clear hk); (try clear hi)))
  go_ret2
  exact ⟨by first | rfl | (simp [errW_none, errW_some] <;> rfl) | (simp [*, errW_none, errW_some] <;> rfl), by repeat (first | exact HB.out | apply below_alloc | apply pw_below_drewN | apply below_drew1)⟩
 ·rw [if_neg c3] at H
  have c3b0 : (t25001 == 0) = false := beq_eq_false_iff_ne.mpr c3
  have c3b1 : (t25001 != 0) = true := bne_iff_ne.mpr c3
  simp only [Option.some.injEq, Prod.mk.injEq] at H
  obtain ⟨rfl, rfl⟩ := H
  go_enter Try.func24, Try.ntmps24
  go_wp2_with (first | ((with_reducible refine gate_callee (f := 14) rfl ?_); refine goesL_ (some 6) rfl rfl Try.func14 (by kernel_rfl) rfl #[.slice A0 l0.length c0] rfl (by (try simp only [List.map_toArray, List.map_cons, List.map_nil]); first | done | rfl | (simp only [List.length_drop, List.length_take]; rfl)) ?_; (with_reducible refine (iso_Check.calls k _ _ l0 t25001 _ ?side1 ?side2 A2.out).mono ?_); (case side1 => exact HR0.out); (case side2 => exact HC0.out); rintro e w7 ⟨rfl, hb⟩; refine ⟨_, rfl, ?_⟩; have n0_ := Aside0.mk (below_step (by repeat (first | exact HB.out | apply below_alloc | apply pw_below_drewN | apply below_drew1)) hb); clear HB; have HB := n0_; clear n0_; (try clear hb); (try clear hb2); (try clear hk); (try clear hi)))
  go_ret2
  exact ⟨by first | rfl | (simp [errW_none, errW_some] <;> rfl) | (simp [*, errW_none, errW_some] <;> rfl), by repeat (first | exact HB.out | apply below_alloc | apply pw_below_drewN | apply below_drew1)⟩

end Go.Proofs.Ytcnkmdonbpgjiaa.G

namespace Go.Proofs.Ytcnkmdonbpgjiaa.G
open Go.RowKit Go.Proofs.YtcnkmdonbpgjiaaW.PrintWords Go.Proofs.YtcnkmdonbpgjiaaW.PrintLast Go.Proofs.YtcnkmdonbpgjiaaW.PrintMore
attribute [local go_sem] max2_int min2_int max_two min_two max_three min_three max_four min_four   -- for this text's walks alone
set_option linter.unusedVariables false
set_option linter.unusedSimpArgs false
theorem runs_one {w : World} {ys : List S32} {news : List Value} (h : Reps (k32.K w) 3 ys news) : ∀ u ∈ news, u.oneCell' = true := by
 intro u hu
 obtain ⟨q, hq, rfl⟩ := List.mem_iff_getElem.1 hu
 have hql : q / 3 < ys.length := by
  rw [Nat.div_lt_iff_lt_mul (by omega)]
  rw [← h.1]
  exact hq
 have hc := h.2 (q / 3) _ (List.getElem?_eq_getElem hql)
 refine k32.K_one hc _ ?_
 rw [List.mem_iff_getElem?]
 refine ⟨q % 3, ?_⟩
 rw [List.getElem?_take, if_pos (Nat.mod_lt _ (by omega)), List.getElem?_drop, Nat.mul_comm, Nat.div_add_mod, List.getElem?_eq_getElem hq]
theorem join_append {ops : Array Oper} {rest : List Oper} {o : Oper} {a : Act} {Q : Exit → Act → World → Prop} {w : World} (hg : o.guard = none) (s x : Operand) (hop : o.op = Op.call { callee := Callee.builtin Builtin.append, args := #[s, x], argTypes := #[22, 22] })
  (A0 : Option Addr) (la : List S32) (hs : a.eval s = .slice A0 la.length la.length) (h0 : Kd.C k32 w A0 la.length la) (A1 : Option Addr) (c1 : Nat) (lb : List S32) (hx : a.eval x = .slice A1 lb.length c1) (h1 : Kd.C k32 w A1 lb.length lb) (hl : la.length + lb.length ≤ 1000) (m : List S32) (hm : la ++ lb = m)
  (hK : ∀ A c w', m.length ≤ c → Kd.C k32 w' A m.length m → Below w.heap.size w w' → wpList Try.prog ops Q rest (a.put o.dst (.slice A m.length c)) w') : wpList Try.prog ops Q (o :: rest) a w := by
 subst hm
 obtain ⟨i0, hi, hzz⟩ := Option.map_eq_some_iff.1 info32
 simp only [Prod.mk.injEq] at hzz
 obtain ⟨hz0, hz1, hz2⟩ := hzz
 by_cases hb : lb.length = 0
 ·obtain rfl : lb = [] := List.eq_nil_of_length_eq_zero hb
  have hK2 := hK A0 la.length w (by simp) (by simpa using h0) (Below.refl _ _)
  have hrun : (Builtin.append_ #[22, 22] o.type #[.slice A0 la.length la.length, .slice A1 ([] : List S32).length c1]).run Try.prog w = .ok (.slice A0 la.length la.length) w := by
   rcases A0 with _ | a0 <;> rcases A1 with _ | a1 <;> simp [Builtin.append_, run_underlying Try.underlying22, sizeOf, typeInfo, hi, Builtin.lenOf, Builtin.firstCells, storeCells, loadCells, loadCellsFrom]
  refine wpList_plain hg fun K hK' => ?_
  unfold Oper.wp
  simp only [List.append_nil] at hK2
  simp [execOp, hop, resolve, invoke, builtin, hs, hx, hrun, Result.andThen]
  simp at hrun
  rw [hrun]
  exact hK' _ _ hK2
 ·obtain ⟨a1, rfl, _⟩ := h1.2.2 (by omega)
  obtain ⟨news, hnr, hnc⟩ := ReadsRow.inner_ h1
  obtain ⟨olds, hor, hoc⟩ : ∃ olds, Reps (k32.K w) 3 la olds ∧ ∀ b, A0 = some b → ∀ j u, olds[j]? = some u → w.cell? (b.add j) = some u := by
   by_cases ha : la.length = 0
   ·obtain rfl : la = [] := List.eq_nil_of_length_eq_zero ha
    exact ⟨[], Reps.none _ _, fun b _ j u h => by simp at h⟩
   ·obtain ⟨a0, rfl, _⟩ := h0.2.2 (by omega)
    obtain ⟨olds, h2, h3⟩ := ReadsRow.inner_ h0
    exact ⟨olds, h2, fun b hb j u h => by cases hb; exact h3 j u h⟩
  have hnone : A0 = none → la.length = 0 ∧ la.length = 0 := fun e => by
   by_cases ha : la.length = 0
   ·exact ⟨ha, ha⟩
   ·obtain ⟨a0, h, _⟩ := h0.2.2 (by omega); rw [e] at h; cases h
  refine wpList_append_grows w hg s x 22 hop 32 i0 (.agg #[(.int .i64 0), (.int .i64 0), (.bool false)]) 3 24 Try.underlying22 hi hz0 hz1 hz2 rfl (by omega) A0 la.length la.length olds hs hnone hor.1 hoc a1 lb.length c1 news hx hnr.1 hnc (runs_one hnr) (by omega) (by simp only [maxLen]; omega) (by omega) ?_
  intro v' w' hown hgr
  have hR : Kd.R k32 32 w' w.heap.size (fun _ => True) v' (la ++ lb) := ⟨fun _ _ => trivial, olds ++ news, by rw [List.length_append]; exact hown, Kd.reps_append (hor.imp_ (fun p c hp => by obtain rfl := k32_open hp; exact k32_mkM _ _ _ _)) (hnr.imp_ (fun p c hp => by obtain rfl := k32_open hp; exact k32_mkM _ _ _ _))⟩
  obtain ⟨A, c, rfl, hc, hC⟩ := Kd.R_reads hR
  exact hK A c w' hc hC ⟨hgr.os, hgr.tape, hgr.output, hgr.size, fun k hk => hgr.block k hk (by simp)⟩
def joinOf13 (a b : List S32) : List S32 × Int := if check13 a = 0 then (if check13 b = 0 then (if tot13 a + tot13 b > 17179869184 then ([], 21) else if (nrm (sem a ++ sem b)).length > 256 then ([], 8) else (nrm (sem a ++ sem b), 0)) else ([], check13 b)) else ([], check13 a)
def iso_Join.f (l0 l1 : List S32) : Option (List S32 × Int) := some (joinOf13 l0 l1)
theorem join_fold (a b : List S32) (h0 : check13 a = 0) (h1 : check13 b = 0) : ([] ++ pieces (a ++ b) 0 0 (tot13 (a ++ b))).foldl addOf [] = nrm (sem a ++ sem b) := by
 have hp : ∀ r ∈ a ++ b, 1 ≤ r.f1 := fun r hr => by
  rcases List.mem_append.mp hr with hr | hr
  ·exact (fit_of ((check13_zero h0).2.1 r hr)).2.2.1
  ·exact (fit_of ((check13_zero h1).2.1 r hr)).2.2.1
 have ht := sem_len (a ++ b) (fun r hr => by have := hp r hr; omega)
 rw [List.nil_append, addAll _ (pieces_pos _ _ _ _), sem_pieces _ 0 0 _ hp, ← ht, Int.sub_zero, Int.sub_zero]
 rw [← sem_append, show ((sem (a ++ b)).length : Int).toNat = (sem (a ++ b)).length by omega, List.take_length]
 rfl
theorem done_many (g : Nat) (ps : List S32) (w : World) (hI : BInv g ps w) (hl : (ps.foldl addOf []).length ≤ 1000000) (hm : (ps.foldl addOf []).length > 256) :
  Calls Try.prog 50 #[.pointer (some ⟨g, 0, none⟩)] w fun e w' => e = .returned (.tuple #[.slice none 0 0, .int .i64 8]) ∧ w' = w := by
 obtain ⟨_, v, hB⟩ := hI
 have := done_calls g v _ w hB hl
 rw [if_pos hm] at this
 exact this
set_option maxRecDepth 100000 in
set_option maxHeartbeats 16000000 in
theorem join_far (a b : List S32) (A0 : Option Addr) (c0 : Nat) (A1 : Option Addr) (c1 : Nat) (w : World) (hr0 : Kd.C k32 w A0 a.length a) (hc0 : a.length ≤ c0) (hr1 : Kd.C k32 w A1 b.length b) (hc1 : b.length ≤ c1) (h0 : check13 a = 0) (h1 : check13 b = 0) :
  Calls Try.prog 38 #[.slice A0 a.length c0, .slice A1 b.length c1] w fun e w' => ∃ v, e = .returned (.tuple #[v, .int .i64 (joinOf13 a b).2]) ∧ Kd.R k32 32 w' w.heap.size (fun _ => True) v (joinOf13 a b).1 ∧ Below w.heap.size w w' := by
 have HR0 := Aside0.mk hr0
 have HC0 := Aside0.mk hc0
 have HR1 := Aside0.mk hr1
 have HC1 := Aside0.mk hc1
 have hcc : decide (a.length ≤ c0) = true := by simpa using hc0
 clear hr0 hr1 hc1
 obtain ⟨k1, hk1⟩ := (icheck_ends a).get
 obtain ⟨k2, hk2⟩ := (icheck_ends b).get
 unfold joinOf13
 obtain ⟨hla, hga, hta⟩ := check13_zero h0
 obtain ⟨hlb, hgb, htb⟩ := check13_zero h1
 have hga2 : ∀ r ∈ a ++ b, ¬ badR r := fun r hr => by
  rcases List.mem_append.mp hr with hr | hr
  ·exact hga r hr
  ·exact hgb r hr
 have hfit : ∀ r ∈ a ++ b, fitR r := fun r hr => fit_of (hga2 r hr)
 have hlen : (a ++ b).length ≤ 512 := by rw [List.length_append]; omega
 obtain ⟨k3, hk3⟩ := (ilength_ends (a ++ b) (by omega) (fun r hr => by have := hfit r hr; unfold fitR at this; omega)).get
 have HK3 := Aside0.mk hk3
 have HJF := Aside0.mk (join_fold a b h0 h1)
 have hmil : (([] ++ pieces (a ++ b) 0 0 (tot13 (a ++ b))).foldl addOf []).length ≤ 1000000 := by
  have := addAll_len ([] ++ pieces (a ++ b) 0 0 (tot13 (a ++ b))) []
  have := pieces_len (a ++ b) 0 0 (tot13 (a ++ b))
  simp only [List.nil_append, List.length_nil] at *
  omega
 have HMIL := Aside0.mk hmil
 rw [h0] at hk1
 rw [h1] at hk2
 have HK1 := Aside0.mk hk1
 have HK2 := Aside0.mk hk2
 have HLA := Aside0.mk hla
 have HLB := Aside0.mk hlb
 have HLN := Aside0.mk hlen
 have HG := Aside0.mk hga2
 have HFI := Aside0.mk (show ∀ r ∈ a ++ b, 0 ≤ r.f0 ∧ r.f0 ≤ 17179869184 ∧ 1 ≤ r.f1 ∧ r.f1 ≤ 17179869184 from hfit)
 have htn : 0 ≤ tot13 a + tot13 b := by have := tot_nonneg h0; have := tot_nonneg h1; omega
 have hT := Aside0.mk (show 0 ≤ tot13 (a ++ b) ∧ tot13 (a ++ b) ≤ 34359738368 by rw [tot13_append]; omega)
 rw [if_pos h0, if_pos h1, ← tot13_append]
 clear hk1 hk2 hk3 h0 h1 hla hga hta hlb hgb htb hfit hga2 hlen hmil htn
 generalize tot13 (a ++ b) = T at *
 have HAB := Aside0.mk (rfl : a ++ b = a ++ b)
 obtain ⟨m, hm⟩ : ∃ m, a ++ b = m := ⟨_, rfl⟩
 rw [hm] at HK3 HJF HMIL HLN HG HFI
 replace HAB := Aside0.mk hm
 clear hm
 obtain ⟨P, hP⟩ : ∃ P, (if T > 17179869184 then (([], 21) : List S32 × Int) else if (nrm (sem a ++ sem b)).length > 256 then ([], 8) else (nrm (sem a ++ sem b), 0)) = P := ⟨_, rfl⟩
 rw [hP]
 have HP := Aside0.mk hP.symm
 clear hP
 go_enter Try.func38, Try.ntmps38
 go_wp2_with (first | (go_at_call 14; (with_reducible refine (iso_Check.calls k1 A0 c0 a 0 _ HR0.out HC0.out HK1.out).mono ?_); rintro e w1 ⟨rfl, hb⟩; have HB1 := Aside0.mk hb; have HR0a := Aside0.mk (Kd.C_below HR0.out hb); have HR1a := Aside0.mk (Kd.C_below HR1.out hb); clear hb) | (go_at_call 14; (with_reducible refine (iso_Check.calls k2 A1 c1 b 0 _ HR1a.out HC1.out HK2.out).mono ?_); rintro e w2 ⟨rfl, hb⟩; have HB2 := Aside0.mk (below_then HB1.out HB1.out.size hb); have HR0b := Aside0.mk (Kd.C_below HR0a.out hb); have HR1b := Aside0.mk (Kd.C_below HR1a.out hb); clear hb) | (at_builtin; refine join_append rfl (.tmp 25) (.tmp 26) rfl A0 a rfl HR0b.out A1 c1 b rfl HR1b.out (by have := HLA.out; have := HLB.out; omega) m HAB.out ?_; intro A c w3 hc3 hr3 hb3; have HB3 := Aside0.mk (below_then HB2.out HB2.out.size hb3); have HR3 := Aside0.mk hr3; have HC3 := Aside0.mk hc3; clear hc3 hr3 hb3))
 by_cases hT1 : T > 17179869184
 ·have hTb : decide ((17179869184 : Int) < T) = true := decide_eq_true hT1
  have e := HP.out.trans (if_pos hT1)
  go_wp2_with (go_at_call 43; (with_reducible refine (iso_length.calls k3 A c m T _ HR3.out HC3.out HK3.out).mono ?_); rintro e w4 ⟨rfl, hb⟩; have HB4 := Aside0.mk (below_then HB3.out HB3.out.size hb); have HR4 := Aside0.mk (Kd.C_below HR3.out hb); clear hb)
  refine bodyPost_ret (results_tmp2 rfl _ _ _) rfl ?_
  exact ⟨.slice none 0 0, by rw [e]; rfl, by rw [e]; exact Kd.R_nil _ _ _ _ _, HB4.out⟩
 ·have hTb : decide ((17179869184 : Int) < T) = false := decide_eq_false hT1
  by_cases hL : (([] ++ pieces m 0 0 T).foldl addOf []).length > 256
  ·have e := HP.out.trans ((if_neg hT1).trans (if_pos (by rw [← HJF.out]; exact hL)))
   go_wp2_with (first | (go_at_call 43; (with_reducible refine (iso_length.calls k3 A c m T _ HR3.out HC3.out HK3.out).mono ?_); rintro e w4 ⟨rfl, hb⟩; have HB4 := Aside0.mk (below_then HB3.out HB3.out.size hb); have HR4 := Aside0.mk (Kd.C_below HR3.out hb); clear hb) | (go_at_call 43; (with_reducible refine (iso_length.calls k3 A c m T _ (Kd.C_alloc HR4.out _) HC3.out HK3.out).mono ?_); rintro e w5 ⟨rfl, hb⟩; have HB5 := Aside0.mk (((Below.refl w4.heap.size w4).alloc (Nat.le_refl _) (.cells #[.slice none 0 0] 57)).trans (hb.mono (by simp))); have HI5 := Aside0.mk (BInv.mono _ _ _ (BInv.new w4) hb).1; clear hb) | (go_at_call 46; (refine (each_add w4.heap.size 65536 (BInv w4.heap.size) okPce (BDirty w4.heap.size) BInv.dirty BInv.mono BInv.step A c m 0 T [] w4 w5 HR4.out HC3.out (Nat.le_refl _) HB5.out HI5.out (by have := HLN.out; simp only [List.length_nil]; omega) (by have := HLN.out; omega) HFI.out (by omega) (by have := hT.out; omega) (fun r hr x n h1 h2 h3 => okPce_part (HG.out r hr) x n h1 h2 h3)).mono ?_); rintro e w6 ⟨rfl, hi, hb⟩; have HI6 := Aside0.mk hi; have HB6 := Aside0.mk (HB4.out.trans (hb.mono HB4.out.size)); clear hi hb) | (go_at_call 50; (with_reducible refine (done_many w4.heap.size _ w6 HI6.out HMIL.out hL).mono ?_); rintro e w7 ⟨rfl, rfl⟩))
   refine bodyPost_ret (results_tmp2 rfl _ _ _) rfl ?_
   exact ⟨.slice none 0 0, by rw [e]; rfl, by rw [e]; exact Kd.R_nil _ _ _ _ _, HB6.out⟩
  ·have e := HP.out.trans ((if_neg hT1).trans (if_neg (by rw [← HJF.out]; exact hL)))
   go_wp2_with (first | (go_at_call 43; (with_reducible refine (iso_length.calls k3 A c m T _ HR3.out HC3.out HK3.out).mono ?_); rintro e w4 ⟨rfl, hb⟩; have HB4 := Aside0.mk (below_then HB3.out HB3.out.size hb); have HR4 := Aside0.mk (Kd.C_below HR3.out hb); clear hb) | (go_at_call 43; (with_reducible refine (iso_length.calls k3 A c m T _ (Kd.C_alloc HR4.out _) HC3.out HK3.out).mono ?_); rintro e w5 ⟨rfl, hb⟩; have HB5 := Aside0.mk (((Below.refl w4.heap.size w4).alloc (Nat.le_refl _) (.cells #[.slice none 0 0] 57)).trans (hb.mono (by simp))); have HI5 := Aside0.mk (BInv.mono _ _ _ (BInv.new w4) hb).1; clear hb) | (go_at_call 46; (refine (each_add w4.heap.size 65536 (BInv w4.heap.size) okPce (BDirty w4.heap.size) BInv.dirty BInv.mono BInv.step A c m 0 T [] w4 w5 HR4.out HC3.out (Nat.le_refl _) HB5.out HI5.out (by have := HLN.out; simp only [List.length_nil]; omega) (by have := HLN.out; omega) HFI.out (by omega) (by have := hT.out; omega) (fun r hr x n h1 h2 h3 => okPce_part (HG.out r hr) x n h1 h2 h3)).mono ?_); rintro e w6 ⟨rfl, hi, hb⟩; have HI6 := Aside0.mk hi; have HB6 := Aside0.mk (HB4.out.trans (hb.mono HB4.out.size)); clear hi hb) | (go_at_call 50; (with_reducible refine (done_few w4.heap.size _ w6 HI6.out (by omega)).mono ?_); rintro e w7 ⟨v, rfl, ho, rfl⟩; have HO := Aside0.mk ho; clear ho))
   refine bodyPost_ret (results_tmp2 rfl _ _ _) rfl ?_
   exact ⟨v, by rw [e]; rfl, by rw [e, ← HJF.out]; exact Kd.R_lower HO.out HB4.out.size, HB6.out⟩
set_option maxRecDepth 100000 in
set_option maxHeartbeats 8000000 in
theorem join_main (a b : List S32) (A0 : Option Addr) (c0 : Nat) (A1 : Option Addr) (c1 : Nat) (w : World) (hr0 : Kd.C k32 w A0 a.length a) (hc0 : a.length ≤ c0) (hr1 : Kd.C k32 w A1 b.length b) (hc1 : b.length ≤ c1) :
  Calls Try.prog 38 #[.slice A0 a.length c0, .slice A1 b.length c1] w fun e w' => ∃ v, e = .returned (.tuple #[v, .int .i64 (joinOf13 a b).2]) ∧ Kd.R k32 32 w' w.heap.size (fun _ => True) v (joinOf13 a b).1 ∧ Below w.heap.size w w' := by
 by_cases h0 : check13 a = 0
 ·by_cases h1 : check13 b = 0
  ·exact join_far a b A0 c0 A1 c1 w hr0 hc0 hr1 hc1 h0 h1
  ·have HR0 := Aside0.mk hr0
   have HC0 := Aside0.mk hc0
   have HR1 := Aside0.mk hr1
   have HC1 := Aside0.mk hc1
   obtain ⟨k1, hk1⟩ := (icheck_ends a).get
   obtain ⟨k2, hk2⟩ := (icheck_ends b).get
   unfold joinOf13
   rw [h0] at hk1
   have HK1 := Aside0.mk hk1
   have HK2 := Aside0.mk hk2
   have hne : (check13 b == 0) = false := by simpa using h1
   have hne1 : (check13 b != 0) = true := by simpa using h1
   rw [if_pos h0, if_neg h1]
   clear hk1 hk2 h0 h1 hr0 hc0 hr1 hc1
   generalize check13 b = q at *
   go_enter Try.func38, Try.ntmps38
   go_wp2_with (first | (go_at_call 14; (with_reducible refine (iso_Check.calls k1 A0 c0 a 0 _ HR0.out HC0.out HK1.out).mono ?_); rintro e w1 ⟨rfl, hb⟩; have HB1 := Aside0.mk hb; have HR1a := Aside0.mk (Kd.C_below HR1.out hb); clear hb) | (go_at_call 14; (with_reducible refine (iso_Check.calls k2 A1 c1 b q _ HR1a.out HC1.out HK2.out).mono ?_); rintro e w2 ⟨rfl, hb⟩; have HB2 := Aside0.mk (below_then HB1.out HB1.out.size hb); clear hb))
   refine bodyPost_ret (results_tmp2 rfl _ _ _) rfl ?_
   exact ⟨_, rfl, Kd.R_nil _ _ _ _ _, HB2.out⟩
 ·have HR0 := Aside0.mk hr0
  have HC0 := Aside0.mk hc0
  obtain ⟨k1, hk1⟩ := (icheck_ends a).get
  unfold joinOf13
  have HK1 := Aside0.mk hk1
  have hne : (check13 a == 0) = false := by simpa using h0
  have hne1 : (check13 a != 0) = true := by simpa using h0
  rw [if_neg h0]
  clear hk1 h0 hr0 hc0 hr1 hc1
  generalize check13 a = q at *
  go_enter Try.func38, Try.ntmps38
  go_wp2_with (go_at_call 14; (with_reducible refine (iso_Check.calls k1 A0 c0 a q _ HR0.out HC0.out HK1.out).mono ?_); rintro e w1 ⟨rfl, hb⟩; have HB1 := Aside0.mk hb; clear hb)
  refine bodyPost_ret (results_tmp2 rfl _ _ _) rfl ?_
  exact ⟨_, rfl, Kd.R_nil _ _ _ _ _, HB1.out⟩
theorem iso_Join.calls (A0 : Option Addr) (c0 : Nat) (l0 : List (S32)) (A1 : Option Addr) (c1 : Nat) (l1 : List (S32)) (r1 : List (S32)) (r2 : Int) (w : World) (hr0 : Kd.C k32 w A0 l0.length l0) (hc0 : l0.length ≤ c0) (hr1 : Kd.C k32 w A1 l1.length l1) (hc1 : l1.length ≤ c1) (h : iso_Join.f l0 l1 = some (r1, r2)) :
  Calls Try.prog 38 #[.slice A0 l0.length c0, .slice A1 l1.length c1] w fun e w' => ∃ v0_ : Value, e = .returned (.tuple #[v0_, .int .i64 r2]) ∧ Kd.R k32 32 w' w.heap.size (fun _ => True) v0_ r1 ∧ Below w.heap.size w w' := by
 have e : joinOf13 l0 l1 = (r1, r2) := Option.some.inj h
 have := join_main l0 l1 A0 c0 A1 c1 w hr0 hc0 hr1 hc1
 rw [e] at this
 exact this
end Go.Proofs.Ytcnkmdonbpgjiaa.G
