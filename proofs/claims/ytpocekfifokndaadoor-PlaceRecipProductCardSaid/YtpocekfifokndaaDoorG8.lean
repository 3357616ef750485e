/- Part 8 of the proof: an evaluator of the program, proved sound against the model, and what the functions of the program compute. No condition but those each theorem states. -/
import Derived.Test.YtpocekfifokndaaDoorG1
import Derived.Test.YtpocekfifokndaaDoorG7
import Derived.Test.YtpocekfifokndaaDoorG4
set_option linter.unusedSimpArgs false
set_option linter.unusedVariables false
namespace Go.Proofs.YtpocekfifokndaaDoor
open Go Go.Ev Go.Pl
set_option maxRecDepth 100000
set_option maxHeartbeats 4000000
theorem bring_le (p n : Int) (hn : 1 ≤ n) : 0 ≤ bringI p n ∧ bringI p n < n := by
  unfold bringI
  rw [if_neg (by omega)]
  exact ⟨Int.emod_nonneg p (by omega), Int.emod_lt_of_pos p (by omega)⟩
theorem b13_of (n : Int) (h0 : 0 ≤ n) (h1 : n < 13) : b13 n = n.toNat := by
  unfold b13 bringI
  rw [if_neg (by decide), Int.emod_eq_of_lt h0 h1]
theorem reg_lt7 {x y z : Nat} (hx : x ≤ 6) (hy : y ≤ 6) (hz : z ≤ 6) : 2 ^ x * 3 ^ y * 5 ^ z < 60 ^ 7 :=
  Nat.lt_of_le_of_lt (Nat.mul_le_mul (Nat.mul_le_mul (Nat.pow_le_pow_right (by decide) hx) (Nat.pow_le_pow_right (by decide) hy)) (Nat.pow_le_pow_right (by decide) hz)) (by decide : 2 ^ 6 * 3 ^ 6 * 5 ^ 6 < 60 ^ 7)
theorem P6 (p0 p1 p2 r0 r1 r2 : Int) : Ans X 6 [.agg [vi p0, vi p1, vi p2], .agg [vi r0, vi r1, vi r2]] (.ret (.bool true)) := by
  refine call_of_X (fn := Tryd.f6) 2 Tryd.func6 rfl (by decide +kernel) rfl ?_ ?_ ?_ ?_
  · rfl
  · exact fun _ => rfl
  · intro v hv; injection hv with hv; subst hv; rfl
  intro s hs hd ho
  have hm : s.m = ⟨.nil, []⟩ := by subst hs; rfl
  have h0 : s.t.get 0 = .agg [vi p0, vi p1, vi p2] := by subst hs; rfl
  have h1 : s.t.get 1 = .agg [vi r0, vi r1, vi r2] := by subst hs; rfl
  clear hs
  have a0 := P33 p0 7 (by decide)
  have a1 := P33 p1 7 (by decide)
  have a2 := P33 p2 7 (by decide)
  have c0 := P33 r0 6 (by decide)
  have c1 := P33 r1 6 (by decide)
  have c2 := P33 r2 6 (by decide)
  obtain ⟨l0, g0⟩ := bring_le p0 7 (by decide)
  obtain ⟨l1, g1⟩ := bring_le p1 7 (by decide)
  obtain ⟨l2, g2⟩ := bring_le p2 7 (by decide)
  obtain ⟨l3, g3⟩ := bring_le r0 6 (by decide)
  obtain ⟨l4, g4⟩ := bring_le r1 6 (by decide)
  obtain ⟨l5, g5⟩ := bring_le r2 6 (by decide)
  generalize bringI p0 7 = x0 at a0 l0 g0
  generalize bringI p1 7 = x1 at a1 l1 g1
  generalize bringI p2 7 = x2 at a2 l2 g2
  generalize bringI r0 6 = y0 at c0 l3 g3
  generalize bringI r1 6 = y1 at c1 l4 g4
  generalize bringI r2 6 = y2 at c2 l5 g5
  have d1 := P30 x0 x1 x2
  have d2 := P30 y0 y1 y2
  rw [b13_of x0 l0 (by omega), b13_of x1 l1 (by omega), b13_of x2 l2 (by omega)] at d1
  rw [b13_of y0 l3 (by omega), b13_of y1 l4 (by omega), b13_of y2 l5 (by omega)] at d2
  have hN := reg_lt7 (x := x0.toNat) (y := x1.toNat) (z := x2.toNat) (by omega) (by omega) (by omega)
  have hM := reg_lt7 (x := y0.toNat) (y := y1.toNat) (z := y2.toNat) (by omega) (by omega) (by omega)
  have hRN := rec_inv x0.toNat x1.toNat x2.toNat
  have hRM := rec_inv y0.toNat y1.toNat y2.toNat
  have hUN : invW x0.toNat x1.toNat x2.toNat < 60 ^ 7 := Nat.lt_of_le_of_lt (invW_le _ _ _) (Nat.pow_lt_pow_of_lt (by decide) (by unfold invK; omega))
  have hUM : invW y0.toNat y1.toNat y2.toNat < 60 ^ 7 := Nat.lt_of_le_of_lt (invW_le _ _ _) (Nat.pow_lt_pow_of_lt (by decide) (by unfold invK; omega))
  generalize 2 ^ x0.toNat * 3 ^ x1.toNat * 5 ^ x2.toNat = N at d1 hN hRN
  generalize 2 ^ y0.toNat * 3 ^ y1.toNat * 5 ^ y2.toNat = M at d2 hM hRM
  generalize invW x0.toNat x1.toNat x2.toNat = U at hRN hUN
  generalize invW y0.toNat y1.toNat y2.toNat = V2 at hRM hUM
  have vN := (digB_val hN).mono (m := 16) (by decide)
  have vM := (digB_val hM).mono (m := 16) (by decide)
  have vU := (digB_val hUN).mono (m := 16) (by decide)
  have vV := (digB_val hUM).mono (m := 16) (by decide)
  have lt14 : ∀ {A B : Nat}, A < 60 ^ 7 → B < 60 ^ 7 → A * B < 60 ^ 14 := fun ha hb => by
    have := mul_lt ha hb; exact this
  have cl : ∀ A, core A ≤ A := fun A => Nat.div_le_self _ _
  have k1 : core N * core M < 60 ^ 14 := lt14 (Nat.lt_of_le_of_lt (cl N) hN) (Nat.lt_of_le_of_lt (cl M) hM)
  have k2 : core U * core V2 < 60 ^ 14 := lt14 (Nat.lt_of_le_of_lt (cl U) hUN) (Nat.lt_of_le_of_lt (cl V2) hUM)
  have vP := (digB_val k1).mono (m := 16) (by decide)
  have vQ := (digB_val k2).mono (m := 16) (by decide)
  have m1 := Q23 vN vM (by rw [num_digB, num_digB]; exact vP.len)
  rw [num_digB, num_digB] at m1
  have m2 := Q23 vU vV (by rw [num_digB, num_digB]; exact vQ.len)
  rw [num_digB, num_digB] at m2
  have i1 := Q32 vN (U := U) (by rw [num_digB]; exact hRN.core) vU.len
  have i2 := Q32 vM (U := V2) (by rw [num_digB]; exact hRM.core) vV.len
  have hR3 : Rec (core (core N * core M)) (core U * core V2) := (hRN.core.symm.core.symm.mul hRM.core.symm.core.symm).core
  have i3 := Q32 vP (U := core U * core V2) (by rw [num_digB]; exact hR3) vQ.len
  have e29 := Q29 (digB (core U * core V2)) (digB (core U * core V2)) 0 (Nat.lt_of_le_of_lt vQ.len (by decide))
  rw [decide_eq_true ⟨rfl, rfl⟩] at e29
  clear hN hM hRN hRM hUN hUM vN vM vU vV lt14 cl k1 k2 vP vQ hR3 l0 g0 l1 g1 l2 g2 l3 g3 l4 g4 l5 g5
  generalize digB (core U * core V2) = q at *
  generalize digB (core N * core M) = p at *
  generalize digB N = a at *
  generalize digB M = b at *
  generalize digB U = u at *
  generalize digB V2 = v at *
  repeat (first
    | with_reducible first | refine W_seq ?_ | refine W_skip ?_ | refine W_label ?_ | refine W_ret ?_ | refine W_exit ?_ | refine W_block ?_ | refine thenI ?_ | refine thenRet ?_ | refine thenExit ?_ | refine blockRet ?_ | refine blockI ?_ | refine blockExit ?_ | refine blockExitNe rfl ?_
    | (with_reducible refine W_region_k ?_
       intro K hK
       simp (maxSteps := 2000000) (disch := omega) only [SA, ofValue, ofCell, bin, intBin, un, idx, Go.Ev.builtin, calleeOf, V.isNilS, V.depthOk, depth1, V.ok1, V.isAgg, V.cells, isConst, Nat.reduceBEq, Nat.reduceEqDiff, ↓reduceIte, Nat.reduceLeDiff, Nat.reduceAdd, Nat.reduceMul, Nat.reduceSub, Nat.reduceLT, Int.reduceAdd, Int.reduceSub, Int.reduceMul, Int.reduceLT, Int.reduceLE, Int.reduceToNat, Int.reduceNeg, reduceIte, reduceCtorEq, SPx, SAx, rowsOf_aggl, ptrs_aggl, h0, h1, hm, un, Bool.not_true, co33, sr33, co30, sr30, a0.iff, a1.iff, a2.iff, c0.iff, c1.iff, c2.iff, d1.iff, d2.iff]
       refine hK _ _ ?_
       clear hK K)
    | (refine W_draw_k (by decide +kernel) ?_
       intro K hK
       simp (maxSteps := 2000000) (disch := omega) only [SA, ofValue, ofCell, bin, intBin, un, idx, Go.Ev.builtin, calleeOf, V.isNilS, V.depthOk, depth1, V.ok1, V.isAgg, V.cells, isConst, Nat.reduceBEq, Nat.reduceEqDiff, ↓reduceIte, Nat.reduceLeDiff, Nat.reduceAdd, Nat.reduceMul, Nat.reduceSub, Nat.reduceLT, Int.reduceAdd, Int.reduceSub, Int.reduceMul, Int.reduceLT, Int.reduceLE, Int.reduceToNat, Int.reduceNeg, reduceIte, reduceCtorEq, SD, SPx, SAx, rowsOf_aggl, ptrs_aggl, h0, h1, hm, un, Bool.not_true, co33, sr33, co30, sr30, a0.iff, a1.iff, a2.iff, c0.iff, c1.iff, c2.iff, d1.iff, d2.iff]
       repeat (refine ⟨by decide +kernel, ?_⟩)
       refine hK _ _ ?_
       clear hK K))
  with_reducible refine W_cond2 (by simp only [SO, ofValue, ofCell, Nat.reduceBEq, Nat.reduceEqDiff, ↓reduceIte]; rfl) (fun h => ?_) (fun h => ?_)
  · simp at h
  clear h
  repeat (first
    | with_reducible first | refine W_seq ?_ | refine W_skip ?_ | refine W_label ?_ | refine W_ret ?_ | refine W_exit ?_ | refine W_block ?_ | refine thenI ?_ | refine thenRet ?_ | refine thenExit ?_ | refine blockRet ?_ | refine blockI ?_ | refine blockExit ?_ | refine blockExitNe rfl ?_
    | (with_reducible refine W_region_k ?_
       intro K hK
       simp (maxSteps := 2000000) (disch := omega) only [SA, ofValue, ofCell, bin, intBin, un, idx, Go.Ev.builtin, calleeOf, V.isNilS, V.depthOk, depth1, V.ok1, V.isAgg, V.cells, isConst, Nat.reduceBEq, Nat.reduceEqDiff, ↓reduceIte, Nat.reduceLeDiff, Nat.reduceAdd, Nat.reduceMul, Nat.reduceSub, Nat.reduceLT, Int.reduceAdd, Int.reduceSub, Int.reduceMul, Int.reduceLT, Int.reduceLE, Int.reduceToNat, Int.reduceNeg, reduceIte, reduceCtorEq, SPx, co23, sr23, co32, sr32, m1.iff, i3.iff, i1.iff, i2.iff]
       refine hK _ _ ?_
       clear hK K)
    | (refine W_draw_k (by decide +kernel) ?_
       intro K hK
       simp (maxSteps := 2000000) (disch := omega) only [SA, ofValue, ofCell, bin, intBin, un, idx, Go.Ev.builtin, calleeOf, V.isNilS, V.depthOk, depth1, V.ok1, V.isAgg, V.cells, isConst, Nat.reduceBEq, Nat.reduceEqDiff, ↓reduceIte, Nat.reduceLeDiff, Nat.reduceAdd, Nat.reduceMul, Nat.reduceSub, Nat.reduceLT, Int.reduceAdd, Int.reduceSub, Int.reduceMul, Int.reduceLT, Int.reduceLE, Int.reduceToNat, Int.reduceNeg, reduceIte, reduceCtorEq, SD, SPx, co23, sr23, co32, sr32, m1.iff, i3.iff, i1.iff, i2.iff]
       repeat (refine ⟨by decide +kernel, ?_⟩)
       refine hK _ _ ?_
       clear hK K))
  repeat (first
    | with_reducible first | refine W_seq ?_ | refine W_skip ?_ | refine W_label ?_ | refine W_ret ?_ | refine W_exit ?_ | refine W_block ?_ | refine thenI ?_ | refine thenRet ?_ | refine thenExit ?_ | refine blockRet ?_ | refine blockI ?_ | refine blockExit ?_ | refine blockExitNe rfl ?_
    | (with_reducible refine W_region_k ?_
       intro K hK
       simp (maxSteps := 2000000) (disch := omega) only [SA, ofValue, ofCell, bin, intBin, un, idx, Go.Ev.builtin, calleeOf, V.isNilS, V.depthOk, depth1, V.ok1, V.isAgg, V.cells, isConst, Nat.reduceBEq, Nat.reduceEqDiff, ↓reduceIte, Nat.reduceLeDiff, Nat.reduceAdd, Nat.reduceMul, Nat.reduceSub, Nat.reduceLT, Int.reduceAdd, Int.reduceSub, Int.reduceMul, Int.reduceLT, Int.reduceLE, Int.reduceToNat, Int.reduceNeg, reduceIte, reduceCtorEq, SPx, co23, sr23, m2.iff, co29, sr29, e29.iff, co26, sr26, P26.iff]
       refine hK _ _ ?_
       clear hK K)
    | (refine W_draw_k (by decide +kernel) ?_
       intro K hK
       simp (maxSteps := 2000000) (disch := omega) only [SA, ofValue, ofCell, bin, intBin, un, idx, Go.Ev.builtin, calleeOf, V.isNilS, V.depthOk, depth1, V.ok1, V.isAgg, V.cells, isConst, Nat.reduceBEq, Nat.reduceEqDiff, ↓reduceIte, Nat.reduceLeDiff, Nat.reduceAdd, Nat.reduceMul, Nat.reduceSub, Nat.reduceLT, Int.reduceAdd, Int.reduceSub, Int.reduceMul, Int.reduceLT, Int.reduceLE, Int.reduceToNat, Int.reduceNeg, reduceIte, reduceCtorEq, SD, SPx, co23, sr23, m2.iff, co29, sr29, e29.iff, co26, sr26, P26.iff]
       repeat (refine ⟨by decide +kernel, ?_⟩)
       refine hK _ _ ?_
       clear hK K))
  refine end_ret hd (by simp (maxSteps := 2000000) (disch := omega) only [Tryd.results6, resVars, resVar, SA, ofValue, ofCell, bin, intBin, un, idx, Go.Ev.builtin, calleeOf, V.isNilS, V.depthOk, depth1, V.ok1, V.isAgg, V.cells, isConst, Nat.reduceBEq, Nat.reduceEqDiff, ↓reduceIte, Nat.reduceLeDiff, Nat.reduceAdd, Nat.reduceMul, Nat.reduceSub, Nat.reduceLT, Int.reduceAdd, Int.reduceSub, Int.reduceMul, Int.reduceLT, Int.reduceLE, Int.reduceToNat, Int.reduceNeg, reduceIte, reduceCtorEq, SPx]; rfl) ?_
  simp (maxSteps := 2000000) (disch := omega) only [SA, ofValue, ofCell, bin, intBin, un, idx, Go.Ev.builtin, calleeOf, V.isNilS, V.depthOk, depth1, V.ok1, V.isAgg, V.cells, isConst, Nat.reduceBEq, Nat.reduceEqDiff, ↓reduceIte, Nat.reduceLeDiff, Nat.reduceAdd, Nat.reduceMul, Nat.reduceSub, Nat.reduceLT, Int.reduceAdd, Int.reduceSub, Int.reduceMul, Int.reduceLT, Int.reduceLE, Int.reduceToNat, Int.reduceNeg, reduceIte, reduceCtorEq, true_and, and_true, Nat.zero_add, Nat.le_refl, if_true, ↓reduceIte, resOf, X_own, mv_int, mv_bool, mv_str, mv_sl, mv_nilS, mv_tup, mv2s_nil, mv2s_cons, mv2_int, mv2_bool, mv2_str, mv2_sl, mv2_nilS, Option.map_some, vi, vn, SPx]
end Go.Proofs.YtpocekfifokndaaDoor
