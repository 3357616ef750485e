/- Part 9 of the proof: an evaluator of the program, proved sound against the model, and what the functions of the program compute. No condition but those each theorem states. -/
import Derived.Test.YtpocekfifokndaaDoorG1
import Derived.Test.YtpocekfifokndaaDoorG3
import Derived.Test.YtpocekfifokndaaDoorG2
import Derived.Test.YtpocekfifokndaaDoorG4
import Derived.Test.YtpocekfifokndaaDoorG7
import Derived.Test.YtpocekfifokndaaDoorG6
set_option linter.unusedSimpArgs false
set_option linter.unusedVariables false
namespace Go.Proofs.YtpocekfifokndaaDoor
open Go Go.Ev Go.Pl
set_option maxRecDepth 100000
set_option maxHeartbeats 4000000
def ofS (n : Int) : List Nat × Int := if n < 0 ∨ 1099511627776 < n then ([], 8) else (digB n.toNat, 0)
theorem P36 (n : Int) : Ans X 36 [vi n] (.ret (.tup [.sl (nats (ofS n).1), vi (ofS n).2])) := by
  refine call_of_X (fn := Tryd.f36) 1 Tryd.func36 rfl (by decide +kernel) rfl ?_ ?_ ?_ ?_
  · rfl
  · intro h; exact absurd h (by rw [sr36]; decide)
  · intro v hv; injection hv with hv; subst hv; rfl
  intro s hs hd ho
  have hm : s.m = ⟨.nil, []⟩ := by subst hs; rfl
  have h0 : s.t.get 0 = vi n := by subst hs; rfl
  clear hs
  by_cases c1 : n < 0
  · repeat (first
      | with_reducible first | refine W_seq ?_ | refine W_skip ?_ | refine W_label ?_ | refine W_ret ?_ | refine W_exit ?_ | refine W_block ?_ | refine thenI ?_ | refine thenRet ?_ | refine thenExit ?_ | refine blockRet ?_ | refine blockI ?_ | refine blockExit ?_ | refine blockExitNe rfl ?_
      | (with_reducible refine W_region_k ?_
         intro K hK
         simp (maxSteps := 2000000) (disch := omega) only [SA, ofValue, ofCell, bin, intBin, un, idx, Go.Ev.builtin, calleeOf, V.isNilS, V.depthOk, depth1, V.ok1, V.isAgg, V.cells, isConst, Nat.reduceBEq, Nat.reduceEqDiff, ↓reduceIte, Nat.reduceLeDiff, Nat.reduceAdd, Nat.reduceMul, Nat.reduceSub, Nat.reduceLT, Int.reduceAdd, Int.reduceSub, Int.reduceMul, Int.reduceLT, Int.reduceLE, Int.reduceToNat, Int.reduceNeg, reduceIte, reduceCtorEq, SPx, h0, hm, c1]
         refine hK _ _ ?_
         clear hK K)
    )
    with_reducible refine W_cond2 (by simp only [SO, ofValue, ofCell, Nat.reduceBEq, Nat.reduceEqDiff, ↓reduceIte]; rfl) (fun h => ?_) (fun h => ?_)
    · repeat (first
        | with_reducible first | refine W_seq ?_ | refine W_skip ?_ | refine W_label ?_ | refine W_ret ?_ | refine W_exit ?_ | refine W_block ?_ | refine thenI ?_ | refine thenRet ?_ | refine thenExit ?_ | refine blockRet ?_ | refine blockI ?_ | refine blockExit ?_ | refine blockExitNe rfl ?_
        | (with_reducible refine W_region_k ?_
           intro K hK
           simp (maxSteps := 2000000) (disch := omega) only [SA, ofValue, ofCell, bin, intBin, un, idx, Go.Ev.builtin, calleeOf, V.isNilS, V.depthOk, depth1, V.ok1, V.isAgg, V.cells, isConst, Nat.reduceBEq, Nat.reduceEqDiff, ↓reduceIte, Nat.reduceLeDiff, Nat.reduceAdd, Nat.reduceMul, Nat.reduceSub, Nat.reduceLT, Int.reduceAdd, Int.reduceSub, Int.reduceMul, Int.reduceLT, Int.reduceLE, Int.reduceToNat, Int.reduceNeg, reduceIte, reduceCtorEq, SPx, hm]
           refine hK _ _ ?_
           clear hK K)
      )
      refine end_ret hd (by simp (maxSteps := 2000000) (disch := omega) only [Tryd.results36, resVars, resVar, SA, ofValue, ofCell, bin, intBin, un, idx, Go.Ev.builtin, calleeOf, V.isNilS, V.depthOk, depth1, V.ok1, V.isAgg, V.cells, isConst, Nat.reduceBEq, Nat.reduceEqDiff, ↓reduceIte, Nat.reduceLeDiff, Nat.reduceAdd, Nat.reduceMul, Nat.reduceSub, Nat.reduceLT, Int.reduceAdd, Int.reduceSub, Int.reduceMul, Int.reduceLT, Int.reduceLE, Int.reduceToNat, Int.reduceNeg, reduceIte, reduceCtorEq, SPx, SSx, appendTo, elemsOf, SAx, hm]; rfl) ?_
      simp (maxSteps := 2000000) (disch := omega) only [SA, ofValue, ofCell, bin, intBin, un, idx, Go.Ev.builtin, calleeOf, V.isNilS, V.depthOk, depth1, V.ok1, V.isAgg, V.cells, isConst, Nat.reduceBEq, Nat.reduceEqDiff, ↓reduceIte, Nat.reduceLeDiff, Nat.reduceAdd, Nat.reduceMul, Nat.reduceSub, Nat.reduceLT, Int.reduceAdd, Int.reduceSub, Int.reduceMul, Int.reduceLT, Int.reduceLE, Int.reduceToNat, Int.reduceNeg, reduceIte, reduceCtorEq, true_and, and_true, Nat.zero_add, Nat.le_refl, if_true, ↓reduceIte, resOf, X_own, mv_int, mv_bool, mv_str, mv_sl, mv_nilS, mv_tup, mv2s_nil, mv2s_cons, mv2_int, mv2_bool, mv2_str, mv2_sl, mv2_nilS, Option.map_some, vi, vn, SPx, SSx, appendTo, elemsOf, SAx, hm]
      rw [ofS, if_pos (.inl c1)]; rfl
    · simp at h
  by_cases c2 : n > 1099511627776
  · repeat (first
      | with_reducible first | refine W_seq ?_ | refine W_skip ?_ | refine W_label ?_ | refine W_ret ?_ | refine W_exit ?_ | refine W_block ?_ | refine thenI ?_ | refine thenRet ?_ | refine thenExit ?_ | refine blockRet ?_ | refine blockI ?_ | refine blockExit ?_ | refine blockExitNe rfl ?_
      | (with_reducible refine W_region_k ?_
         intro K hK
         simp (maxSteps := 2000000) (disch := omega) only [SA, ofValue, ofCell, bin, intBin, un, idx, Go.Ev.builtin, calleeOf, V.isNilS, V.depthOk, depth1, V.ok1, V.isAgg, V.cells, isConst, Nat.reduceBEq, Nat.reduceEqDiff, ↓reduceIte, Nat.reduceLeDiff, Nat.reduceAdd, Nat.reduceMul, Nat.reduceSub, Nat.reduceLT, Int.reduceAdd, Int.reduceSub, Int.reduceMul, Int.reduceLT, Int.reduceLE, Int.reduceToNat, Int.reduceNeg, reduceIte, reduceCtorEq, SPx, h0, hm, c1, c2]
         refine hK _ _ ?_
         clear hK K)
    )
    with_reducible refine W_cond2 (by simp only [SO, ofValue, ofCell, Nat.reduceBEq, Nat.reduceEqDiff, ↓reduceIte]; rfl) (fun h => ?_) (fun h => ?_)
    · repeat (first
        | with_reducible first | refine W_seq ?_ | refine W_skip ?_ | refine W_label ?_ | refine W_ret ?_ | refine W_exit ?_ | refine W_block ?_ | refine thenI ?_ | refine thenRet ?_ | refine thenExit ?_ | refine blockRet ?_ | refine blockI ?_ | refine blockExit ?_ | refine blockExitNe rfl ?_
        | (with_reducible refine W_region_k ?_
           intro K hK
           simp (maxSteps := 2000000) (disch := omega) only [SA, ofValue, ofCell, bin, intBin, un, idx, Go.Ev.builtin, calleeOf, V.isNilS, V.depthOk, depth1, V.ok1, V.isAgg, V.cells, isConst, Nat.reduceBEq, Nat.reduceEqDiff, ↓reduceIte, Nat.reduceLeDiff, Nat.reduceAdd, Nat.reduceMul, Nat.reduceSub, Nat.reduceLT, Int.reduceAdd, Int.reduceSub, Int.reduceMul, Int.reduceLT, Int.reduceLE, Int.reduceToNat, Int.reduceNeg, reduceIte, reduceCtorEq, SPx, hm]
           refine hK _ _ ?_
           clear hK K)
      )
      refine end_ret hd (by simp (maxSteps := 2000000) (disch := omega) only [Tryd.results36, resVars, resVar, SA, ofValue, ofCell, bin, intBin, un, idx, Go.Ev.builtin, calleeOf, V.isNilS, V.depthOk, depth1, V.ok1, V.isAgg, V.cells, isConst, Nat.reduceBEq, Nat.reduceEqDiff, ↓reduceIte, Nat.reduceLeDiff, Nat.reduceAdd, Nat.reduceMul, Nat.reduceSub, Nat.reduceLT, Int.reduceAdd, Int.reduceSub, Int.reduceMul, Int.reduceLT, Int.reduceLE, Int.reduceToNat, Int.reduceNeg, reduceIte, reduceCtorEq, SPx, SSx, appendTo, elemsOf, SAx, hm]; rfl) ?_
      simp (maxSteps := 2000000) (disch := omega) only [SA, ofValue, ofCell, bin, intBin, un, idx, Go.Ev.builtin, calleeOf, V.isNilS, V.depthOk, depth1, V.ok1, V.isAgg, V.cells, isConst, Nat.reduceBEq, Nat.reduceEqDiff, ↓reduceIte, Nat.reduceLeDiff, Nat.reduceAdd, Nat.reduceMul, Nat.reduceSub, Nat.reduceLT, Int.reduceAdd, Int.reduceSub, Int.reduceMul, Int.reduceLT, Int.reduceLE, Int.reduceToNat, Int.reduceNeg, reduceIte, reduceCtorEq, true_and, and_true, Nat.zero_add, Nat.le_refl, if_true, ↓reduceIte, resOf, X_own, mv_int, mv_bool, mv_str, mv_sl, mv_nilS, mv_tup, mv2s_nil, mv2s_cons, mv2_int, mv2_bool, mv2_str, mv2_sl, mv2_nilS, Option.map_some, vi, vn, SPx, SSx, appendTo, elemsOf, SAx, hm]
      rw [ofS, if_pos (.inr c2)]; rfl
    · simp at h
  obtain ⟨k, rfl⟩ : ∃ k : Nat, n = k := ⟨n.toNat, by omega⟩
  have hk16 : k < 60 ^ 16 := by omega
  have q1 := P88 k (by omega)
  have q2 := P81 (k * 60 ^ 72) (by
    calc k * 60 ^ 72 < 60 ^ 16 * 60 ^ 72 := Nat.mul_lt_mul_of_pos_right hk16 (by decide)
      _ ≤ 60 ^ 168 := by decide)
  rw [placeRes_whole hk16] at q2
  rw [ofS, if_neg (by omega), Int.toNat_natCast]
  clear hk16
  repeat (first
    | with_reducible first | refine W_seq ?_ | refine W_skip ?_ | refine W_label ?_ | refine W_ret ?_ | refine W_exit ?_ | refine W_block ?_ | refine thenI ?_ | refine thenRet ?_ | refine thenExit ?_ | refine blockRet ?_ | refine blockI ?_ | refine blockExit ?_ | refine blockExitNe rfl ?_
    | (with_reducible refine W_region_k ?_
       intro K hK
       simp (maxSteps := 2000000) (disch := omega) only [SA, ofValue, ofCell, bin, intBin, un, idx, Go.Ev.builtin, calleeOf, V.isNilS, V.depthOk, depth1, V.ok1, V.isAgg, V.cells, isConst, Nat.reduceBEq, Nat.reduceEqDiff, ↓reduceIte, Nat.reduceLeDiff, Nat.reduceAdd, Nat.reduceMul, Nat.reduceSub, Nat.reduceLT, Int.reduceAdd, Int.reduceSub, Int.reduceMul, Int.reduceLT, Int.reduceLE, Int.reduceToNat, Int.reduceNeg, reduceIte, reduceCtorEq, SPx, h0, hm, c1, c2]
       refine hK _ _ ?_
       clear hK K)
  )
  with_reducible refine W_cond2 (by simp only [SO, ofValue, ofCell, Nat.reduceBEq, Nat.reduceEqDiff, ↓reduceIte]; rfl) (fun h => ?_) (fun h => ?_)
  · simp at h
  repeat (first
    | with_reducible first | refine W_seq ?_ | refine W_skip ?_ | refine W_label ?_ | refine W_ret ?_ | refine W_exit ?_ | refine W_block ?_ | refine thenI ?_ | refine thenRet ?_ | refine thenExit ?_ | refine blockRet ?_ | refine blockI ?_ | refine blockExit ?_ | refine blockExitNe rfl ?_
    | (with_reducible refine W_region_k ?_
       intro K hK
       simp (maxSteps := 2000000) (disch := omega) only [SA, ofValue, ofCell, bin, intBin, un, idx, Go.Ev.builtin, calleeOf, V.isNilS, V.depthOk, depth1, V.ok1, V.isAgg, V.cells, isConst, Nat.reduceBEq, Nat.reduceEqDiff, ↓reduceIte, Nat.reduceLeDiff, Nat.reduceAdd, Nat.reduceMul, Nat.reduceSub, Nat.reduceLT, Int.reduceAdd, Int.reduceSub, Int.reduceMul, Int.reduceLT, Int.reduceLE, Int.reduceToNat, Int.reduceNeg, reduceIte, reduceCtorEq, SPx, SAx, SWx, h0, hm, co88, sr88, co81, sr81, q1.iff, q2.iff]
       refine hK _ _ ?_
       clear hK K)
  )
  refine end_ret hd (by simp (maxSteps := 2000000) (disch := omega) only [Tryd.results36, resVars, resVar, SA, ofValue, ofCell, bin, intBin, un, idx, Go.Ev.builtin, calleeOf, V.isNilS, V.depthOk, depth1, V.ok1, V.isAgg, V.cells, isConst, Nat.reduceBEq, Nat.reduceEqDiff, ↓reduceIte, Nat.reduceLeDiff, Nat.reduceAdd, Nat.reduceMul, Nat.reduceSub, Nat.reduceLT, Int.reduceAdd, Int.reduceSub, Int.reduceMul, Int.reduceLT, Int.reduceLE, Int.reduceToNat, Int.reduceNeg, reduceIte, reduceCtorEq, SPx]; rfl) ?_
  simp (maxSteps := 2000000) (disch := omega) only [SA, ofValue, ofCell, bin, intBin, un, idx, Go.Ev.builtin, calleeOf, V.isNilS, V.depthOk, depth1, V.ok1, V.isAgg, V.cells, isConst, Nat.reduceBEq, Nat.reduceEqDiff, ↓reduceIte, Nat.reduceLeDiff, Nat.reduceAdd, Nat.reduceMul, Nat.reduceSub, Nat.reduceLT, Int.reduceAdd, Int.reduceSub, Int.reduceMul, Int.reduceLT, Int.reduceLE, Int.reduceToNat, Int.reduceNeg, reduceIte, reduceCtorEq, true_and, and_true, Nat.zero_add, Nat.le_refl, if_true, ↓reduceIte, resOf, X_own, mv_int, mv_bool, mv_str, mv_sl, mv_nilS, mv_tup, mv2s_nil, mv2s_cons, mv2_int, mv2_bool, mv2_str, mv2_sl, mv2_nilS, Option.map_some, vi, vn, SPx]
theorem int_step (N j : Nat) (hj : 0 < j) : N / 60 ^ (j - 1) = N / 60 ^ j * 60 + dig N (j - 1) := by
  have := div_succ N (j - 1)
  rwa [show j - 1 + 1 = j by omega] at this
theorem P105 (N : Nat) (hN : N < 60 ^ 168) : Ans X 105 [wv N, vi 1099511627776] (.ret (.tup (if N / 60 ^ 72 ≤ 1099511627776 then [vn (N / 60 ^ 72), .bool true] else [vi 0, .bool false]))) := by
  refine call_of_X (fn := Tryd.f105) 2 Tryd.func105 rfl (by decide +kernel) rfl ?_ ?_ ?_ ?_
  · simp only [List.any_cons, List.any_nil, wv_refs]; rfl
  · intro _; split <;> rfl
  · intro v hv; injection hv with hv; subst hv; split <;> rfl
  intro s hs hd ho
  have hm : s.m = ⟨.nil, []⟩ := by subst hs; rfl
  have h0 : s.t.get 0 = .agg (wc (dig N)) := by subst hs; rfl
  have h1 : s.t.get 1 = vi 1099511627776 := by subst hs; rfl
  clear hs
  repeat (first
    | with_reducible first | refine W_seq ?_ | refine W_skip ?_ | refine W_label ?_ | refine W_ret ?_ | refine W_exit ?_ | refine W_block ?_ | refine thenI ?_ | refine thenRet ?_ | refine thenExit ?_ | refine blockRet ?_ | refine blockI ?_ | refine blockExit ?_ | refine blockExitNe rfl ?_
    | (with_reducible refine W_region_k ?_
       intro K hK
       simp (maxSteps := 2000000) (disch := omega) only [SA, ofValue, ofCell, bin, intBin, un, idx, Go.Ev.builtin, calleeOf, V.isNilS, V.depthOk, depth1, V.ok1, V.isAgg, V.cells, isConst, Nat.reduceBEq, Nat.reduceEqDiff, ↓reduceIte, Nat.reduceLeDiff, Nat.reduceAdd, Nat.reduceMul, Nat.reduceSub, Nat.reduceLT, Int.reduceAdd, Int.reduceSub, Int.reduceMul, Int.reduceLT, Int.reduceLE, Int.reduceToNat, Int.reduceNeg, reduceIte, reduceCtorEq, SPx, SWx, h0, h1, hm]
       refine hK _ _ ?_
       clear hK K)
  )
  refine W_loopg (fun (j : Nat) s => s.dfs = [] ∧ s.m.out.length = 0 ∧ s.t.get 1 = vi 1099511627776 ∧ s.t.get 2 = .ptr ⟨0, 2, 0, 1⟩ 0 0 ∧ s.t.get 6 = vn (N / 60 ^ j) ∧ s.t.get 7 = vn (j - 1) ∧
    s.m.row ⟨0, 2, 0, 1⟩ = some ⟨1, 100, false, false, [.agg (wc (dig N))]⟩ ∧ 72 ≤ j ∧ j ≤ 168 ∧ N / 60 ^ j ≤ 1099511627776) (fun j => j) 168 ?_ ?_
  · have hz : N / 60 ^ 168 = 0 := Nat.div_eq_of_lt hN
    rw [hz]
    refine ⟨hd, ?_, ?_, ?_, ?_, ?_, ?_, by decide, Nat.le_refl _, Nat.zero_le _⟩
    all_goals (try simp (maxSteps := 2000000) (disch := omega) only [SO, ofValue, ofCell, Nat.reduceBEq, Nat.reduceEqDiff, ↓reduceIte, and_self, and_true, true_and, Mem.newRef_eq, Mem.gen_nil, Mem.gen_new, Mem.gen_set, Mem.row_new, Mem.row_setW, Mem.new_out, Mem.set_out, List.length_nil, List.length_cons, Nat.zero_le, Nat.le_refl, Nat.reduceLeDiff, Nat.reduceAdd, and_self, and_true, true_and, Nat.zero_add, SWx, h0, h1, hm])
    all_goals rfl
  clear hd ho hm h0 h1 hN
  rintro j s ⟨hd, ho, h1, h2, h6, h7, r2, hj1, hj2, hle⟩
  repeat (first
    | with_reducible first | refine W_seq ?_ | refine W_skip ?_ | refine W_label ?_ | refine W_ret ?_ | refine W_exit ?_ | refine W_block ?_ | refine thenI ?_ | refine thenRet ?_ | refine thenExit ?_ | refine blockRet ?_ | refine blockI ?_ | refine blockExit ?_ | refine blockExitNe rfl ?_
    | (with_reducible refine W_region_k ?_
       intro K hK
       simp (maxSteps := 2000000) (disch := omega) only [SA, ofValue, ofCell, bin, intBin, un, idx, Go.Ev.builtin, calleeOf, V.isNilS, V.depthOk, depth1, V.ok1, V.isAgg, V.cells, isConst, Nat.reduceBEq, Nat.reduceEqDiff, ↓reduceIte, Nat.reduceLeDiff, Nat.reduceAdd, Nat.reduceMul, Nat.reduceSub, Nat.reduceLT, Int.reduceAdd, Int.reduceSub, Int.reduceMul, Int.reduceLT, Int.reduceLE, Int.reduceToNat, Int.reduceNeg, reduceIte, reduceCtorEq, SPx, h7]
       refine hK _ _ ?_
       clear hK K)
  )
  with_reducible refine W_cond2 (by simp only [SO, ofValue, ofCell, Nat.reduceBEq, Nat.reduceEqDiff, ↓reduceIte]; rfl) (fun h => ?_) (fun h => ?_)
  · have hj : 73 ≤ j := by have := of_decide_eq_true h; omega
    clear h
    have hst := int_step N j (by omega)
    have hd60 := dig_lt N (j - 1)
    have hmono : N / 60 ^ (j - 1) ≤ N / 60 ^ 72 := by
      have e : (60 : Nat) ^ (j - 1) = 60 ^ 72 * 60 ^ (j - 1 - 72) := by rw [← Nat.pow_add]; congr 1; omega
      rw [e, ← Nat.div_div_eq_div_mul]; exact Nat.div_le_self _ _
    generalize N / 60 ^ j = q at *
    generalize hdg : dig N (j - 1) = d at *
    have hidx : j - 1 < 168 := by omega
    have hi0 : (0 : Int) ≤ ((j - 1 : Nat) : Int) := by omega
    have hi1 : ((j - 1 : Nat) : Int) < (168 : Int) := by omega
    have hi2 : ((j - 1 : Nat) : Int) < ((168 : Nat) : Int) := by omega
    have hget : (wc (dig N))[j - 1]? = some (vn d) := by rw [wc_get _ hidx, hdg]
    have g1 : V.int .i64 (wr .i64 ((1099511627776 : Int) - d)) = vn (1099511627776 - d) := by rw [wr_i64 (by omega) (by omega)]; congr 1; omega
    have g2 : V.int .i64 (wr .i64 (Int.tdiv ((1099511627776 - d : Nat) : Int) 60)) = vn ((1099511627776 - d) / 60) := by rw [cast_tdiv60, wr_nat (by omega)]
    have g3 : V.int .i64 (wr .i64 ((q : Int) * 60)) = vn (q * 60) := by rw [cast_mul60, wr_nat (by omega)]
    have g5 : V.int .i64 (wr .i64 ((j - 1 : Nat) - (1 : Int))) = vn (j - 1 - 1) := by rw [wr_i64 (by omega) (by omega)]; congr 1; omega
    by_cases c : q > (1099511627776 - d) / 60
    · have c' : ((q : Nat) : Int) > (((1099511627776 - d) / 60 : Nat) : Int) := by omega
      rw [if_neg (by omega)]
      clear hst hmono hle
      repeat (first
        | with_reducible first | refine W_seq ?_ | refine W_skip ?_ | refine W_label ?_ | refine W_ret ?_ | refine W_exit ?_ | refine W_block ?_ | refine thenI ?_ | refine thenRet ?_ | refine thenExit ?_ | refine blockRet ?_ | refine blockI ?_ | refine blockExit ?_ | refine blockExitNe rfl ?_
        | (with_reducible refine W_region_k ?_
           intro K hK
           simp (maxSteps := 2000000) (disch := omega) only [SA, ofValue, ofCell, bin, intBin, un, idx, Go.Ev.builtin, calleeOf, V.isNilS, V.depthOk, depth1, V.ok1, V.isAgg, V.cells, isConst, Nat.reduceBEq, Nat.reduceEqDiff, ↓reduceIte, Nat.reduceLeDiff, Nat.reduceAdd, Nat.reduceMul, Nat.reduceSub, Nat.reduceLT, Int.reduceAdd, Int.reduceSub, Int.reduceMul, Int.reduceLT, Int.reduceLE, Int.reduceToNat, Int.reduceNeg, reduceIte, reduceCtorEq, SPx, SWx, h1, h2, h6, h7, r2, hidx, hi0, hi1, hi2, hget, Int.reduceEq, g1, g2, c']
           refine hK _ _ ?_
           clear hK K)
      )
      with_reducible refine W_cond2 (by simp only [SO, ofValue, ofCell, Nat.reduceBEq, Nat.reduceEqDiff, ↓reduceIte]; rfl) (fun h => ?_) (fun h => ?_)
      · repeat (first
          | with_reducible first | refine W_seq ?_ | refine W_skip ?_ | refine W_label ?_ | refine W_ret ?_ | refine W_exit ?_ | refine W_block ?_ | refine thenI ?_ | refine thenRet ?_ | refine thenExit ?_ | refine blockRet ?_ | refine blockI ?_ | refine blockExit ?_ | refine blockExitNe rfl ?_
          | (with_reducible refine W_region_k ?_
             intro K hK
             simp (maxSteps := 2000000) (disch := omega) only [SA, ofValue, ofCell, bin, intBin, un, idx, Go.Ev.builtin, calleeOf, V.isNilS, V.depthOk, depth1, V.ok1, V.isAgg, V.cells, isConst, Nat.reduceBEq, Nat.reduceEqDiff, ↓reduceIte, Nat.reduceLeDiff, Nat.reduceAdd, Nat.reduceMul, Nat.reduceSub, Nat.reduceLT, Int.reduceAdd, Int.reduceSub, Int.reduceMul, Int.reduceLT, Int.reduceLE, Int.reduceToNat, Int.reduceNeg, reduceIte, reduceCtorEq, SPx]
             refine hK _ _ ?_
             clear hK K)
        )
        refine end_ret hd (by simp (maxSteps := 2000000) (disch := omega) only [Tryd.results105, resVars, resVar, SA, ofValue, ofCell, bin, intBin, un, idx, Go.Ev.builtin, calleeOf, V.isNilS, V.depthOk, depth1, V.ok1, V.isAgg, V.cells, isConst, Nat.reduceBEq, Nat.reduceEqDiff, ↓reduceIte, Nat.reduceLeDiff, Nat.reduceAdd, Nat.reduceMul, Nat.reduceSub, Nat.reduceLT, Int.reduceAdd, Int.reduceSub, Int.reduceMul, Int.reduceLT, Int.reduceLE, Int.reduceToNat, Int.reduceNeg, reduceIte, reduceCtorEq, SPx]; rfl) ?_
        simp (maxSteps := 2000000) (disch := omega) only [SA, ofValue, ofCell, bin, intBin, un, idx, Go.Ev.builtin, calleeOf, V.isNilS, V.depthOk, depth1, V.ok1, V.isAgg, V.cells, isConst, Nat.reduceBEq, Nat.reduceEqDiff, ↓reduceIte, Nat.reduceLeDiff, Nat.reduceAdd, Nat.reduceMul, Nat.reduceSub, Nat.reduceLT, Int.reduceAdd, Int.reduceSub, Int.reduceMul, Int.reduceLT, Int.reduceLE, Int.reduceToNat, Int.reduceNeg, reduceIte, reduceCtorEq, true_and, and_true, Nat.zero_add, Nat.le_refl, if_true, ↓reduceIte, resOf, X_own, mv_int, mv_bool, mv_str, mv_sl, mv_nilS, mv_tup, mv2s_nil, mv2s_cons, mv2_int, mv2_bool, mv2_str, mv2_sl, mv2_nilS, Option.map_some, vi, vn, SPx]
      · simp at h
    · have c' : ¬ ((q : Nat) : Int) > (((1099511627776 - d) / 60 : Nat) : Int) := by omega
      have hle2 : q * 60 + d ≤ 1099511627776 := by omega
      have g4 : V.int .i64 (wr .i64 (((q * 60 : Nat) : Int) + d)) = vn (N / 60 ^ (j - 1)) := by rw [cast_add, wr_nat (by omega), hst]
      have hm2 : j - 1 < j ∧ 72 ≤ j - 1 ∧ j - 1 ≤ 168 ∧ N / 60 ^ (j - 1) ≤ 1099511627776 := by omega
      clear hst hmono hle
      repeat (first
        | with_reducible first | refine W_seq ?_ | refine W_skip ?_ | refine W_label ?_ | refine W_ret ?_ | refine W_exit ?_ | refine W_block ?_ | refine thenI ?_ | refine thenRet ?_ | refine thenExit ?_ | refine blockRet ?_ | refine blockI ?_ | refine blockExit ?_ | refine blockExitNe rfl ?_
        | (with_reducible refine W_region_k ?_
           intro K hK
           simp (maxSteps := 2000000) (disch := omega) only [SA, ofValue, ofCell, bin, intBin, un, idx, Go.Ev.builtin, calleeOf, V.isNilS, V.depthOk, depth1, V.ok1, V.isAgg, V.cells, isConst, Nat.reduceBEq, Nat.reduceEqDiff, ↓reduceIte, Nat.reduceLeDiff, Nat.reduceAdd, Nat.reduceMul, Nat.reduceSub, Nat.reduceLT, Int.reduceAdd, Int.reduceSub, Int.reduceMul, Int.reduceLT, Int.reduceLE, Int.reduceToNat, Int.reduceNeg, reduceIte, reduceCtorEq, SPx, SWx, h1, h2, h6, h7, r2, hidx, hi0, hi1, hi2, hget, Int.reduceEq, g1, g2, c']
           refine hK _ _ ?_
           clear hK K)
      )
      with_reducible refine W_cond2 (by simp only [SO, ofValue, ofCell, Nat.reduceBEq, Nat.reduceEqDiff, ↓reduceIte]; rfl) (fun h => ?_) (fun h => ?_)
      · simp at h
      repeat (first
        | with_reducible first | refine W_seq ?_ | refine W_skip ?_ | refine W_label ?_ | refine W_ret ?_ | refine W_exit ?_ | refine W_block ?_ | refine thenI ?_ | refine thenRet ?_ | refine thenExit ?_ | refine blockRet ?_ | refine blockI ?_ | refine blockExit ?_ | refine blockExitNe rfl ?_
        | (with_reducible refine W_region_k ?_
           intro K hK
           simp (maxSteps := 2000000) (disch := omega) only [SA, ofValue, ofCell, bin, intBin, un, idx, Go.Ev.builtin, calleeOf, V.isNilS, V.depthOk, depth1, V.ok1, V.isAgg, V.cells, isConst, Nat.reduceBEq, Nat.reduceEqDiff, ↓reduceIte, Nat.reduceLeDiff, Nat.reduceAdd, Nat.reduceMul, Nat.reduceSub, Nat.reduceLT, Int.reduceAdd, Int.reduceSub, Int.reduceMul, Int.reduceLT, Int.reduceLE, Int.reduceToNat, Int.reduceNeg, reduceIte, reduceCtorEq, SPx, SWx, h1, h2, h6, h7, r2, hidx, hi0, hi1, hi2, hget, g3, g4, g5]
           refine hK _ _ ?_
           clear hK K)
      )
      refine ⟨j - 1, ⟨hd, ?_, ?_, ?_, ?_, ?_, ?_, hm2.2.1, hm2.2.2.1, hm2.2.2.2⟩, hm2.1⟩
      all_goals (try simp (maxSteps := 2000000) (disch := omega) only [SO, ofValue, ofCell, Nat.reduceBEq, Nat.reduceEqDiff, ↓reduceIte, and_self, and_true, true_and, Mem.newRef_eq, Mem.gen_nil, Mem.gen_new, Mem.gen_set, Mem.row_new, Mem.row_setW, Mem.new_out, Mem.set_out, List.length_nil, List.length_cons, Nat.zero_le, Nat.le_refl, Nat.reduceLeDiff, Nat.reduceAdd, and_self, and_true, true_and, Nat.zero_add, ho, h1, h2, r2])
  · have hj : j = 72 := by have := of_decide_eq_false h; omega
    subst hj
    clear h
    rw [if_pos hle]
    clear hle
    repeat (first
      | with_reducible first | refine W_seq ?_ | refine W_skip ?_ | refine W_label ?_ | refine W_ret ?_ | refine W_exit ?_ | refine W_block ?_ | refine thenI ?_ | refine thenRet ?_ | refine thenExit ?_ | refine blockRet ?_ | refine blockI ?_ | refine blockExit ?_ | refine blockExitNe rfl ?_
      | (with_reducible refine W_region_k ?_
         intro K hK
         simp (maxSteps := 2000000) (disch := omega) only [SA, ofValue, ofCell, bin, intBin, un, idx, Go.Ev.builtin, calleeOf, V.isNilS, V.depthOk, depth1, V.ok1, V.isAgg, V.cells, isConst, Nat.reduceBEq, Nat.reduceEqDiff, ↓reduceIte, Nat.reduceLeDiff, Nat.reduceAdd, Nat.reduceMul, Nat.reduceSub, Nat.reduceLT, Int.reduceAdd, Int.reduceSub, Int.reduceMul, Int.reduceLT, Int.reduceLE, Int.reduceToNat, Int.reduceNeg, reduceIte, reduceCtorEq, SPx, h6]
         refine hK _ _ ?_
         clear hK K)
    )
    refine end_ret hd (by simp (maxSteps := 2000000) (disch := omega) only [Tryd.results105, resVars, resVar, SA, ofValue, ofCell, bin, intBin, un, idx, Go.Ev.builtin, calleeOf, V.isNilS, V.depthOk, depth1, V.ok1, V.isAgg, V.cells, isConst, Nat.reduceBEq, Nat.reduceEqDiff, ↓reduceIte, Nat.reduceLeDiff, Nat.reduceAdd, Nat.reduceMul, Nat.reduceSub, Nat.reduceLT, Int.reduceAdd, Int.reduceSub, Int.reduceMul, Int.reduceLT, Int.reduceLE, Int.reduceToNat, Int.reduceNeg, reduceIte, reduceCtorEq, SPx]; rfl) ?_
    simp (maxSteps := 2000000) (disch := omega) only [SA, ofValue, ofCell, bin, intBin, un, idx, Go.Ev.builtin, calleeOf, V.isNilS, V.depthOk, depth1, V.ok1, V.isAgg, V.cells, isConst, Nat.reduceBEq, Nat.reduceEqDiff, ↓reduceIte, Nat.reduceLeDiff, Nat.reduceAdd, Nat.reduceMul, Nat.reduceSub, Nat.reduceLT, Int.reduceAdd, Int.reduceSub, Int.reduceMul, Int.reduceLT, Int.reduceLE, Int.reduceToNat, Int.reduceNeg, reduceIte, reduceCtorEq, true_and, and_true, Nat.zero_add, Nat.le_refl, if_true, ↓reduceIte, resOf, X_own, mv_int, mv_bool, mv_str, mv_sl, mv_nilS, mv_tup, mv2s_nil, mv2s_cons, mv2_int, mv2_bool, mv2_str, mv2_sl, mv2_nilS, Option.map_some, vi, vn, SPx]
def whS (a : List Int) : Int × Int := if chk a ≠ 0 then (0, chk a) else if numI a ≤ 1099511627776 then ((numI a : Int), 0) else (0, 6)
theorem P43 (a : List Int) : Ans X 43 [.sl (ints a)] (.ret (.tup [vi (whS a).1, vi (whS a).2])) := by
  refine call_of_X (fn := Tryd.f43) 1 Tryd.func43 rfl (by decide +kernel) rfl ?_ ?_ ?_ ?_
  · rfl
  · exact fun _ => rfl
  · intro v hv; injection hv with hv; subst hv; rfl
  intro s hs hd ho
  have hm : s.m = ⟨.nil, []⟩ := by subst hs; rfl
  have h0 : s.t.get 0 = .sl (ints a) := by subst hs; rfl
  clear hs
  repeat (first
    | with_reducible first | refine W_seq ?_ | refine W_skip ?_ | refine W_label ?_ | refine W_ret ?_ | refine W_exit ?_ | refine W_block ?_ | refine thenI ?_ | refine thenRet ?_ | refine thenExit ?_ | refine blockRet ?_ | refine blockI ?_ | refine blockExit ?_ | refine blockExitNe rfl ?_
    | (with_reducible refine W_region_k ?_
       intro K hK
       simp (maxSteps := 2000000) (disch := omega) only [SA, ofValue, ofCell, bin, intBin, un, idx, Go.Ev.builtin, calleeOf, V.isNilS, V.depthOk, depth1, V.ok1, V.isAgg, V.cells, isConst, Nat.reduceBEq, Nat.reduceEqDiff, ↓reduceIte, Nat.reduceLeDiff, Nat.reduceAdd, Nat.reduceMul, Nat.reduceSub, Nat.reduceLT, Int.reduceAdd, Int.reduceSub, Int.reduceMul, Int.reduceLT, Int.reduceLE, Int.reduceToNat, Int.reduceNeg, reduceIte, reduceCtorEq, SPx, h0, hm, co28, sr28, (P28 a).iff]
       refine hK _ _ ?_
       clear hK K)
  )
  with_reducible refine W_cond2 (by simp only [SO, ofValue, ofCell, Nat.reduceBEq, Nat.reduceEqDiff, ↓reduceIte]; rfl) (fun h => ?_) (fun h => ?_)
  · have h : chk a ≠ 0 := by simpa using h
    repeat (first
      | with_reducible first | refine W_seq ?_ | refine W_skip ?_ | refine W_label ?_ | refine W_ret ?_ | refine W_exit ?_ | refine W_block ?_ | refine thenI ?_ | refine thenRet ?_ | refine thenExit ?_ | refine blockRet ?_ | refine blockI ?_ | refine blockExit ?_ | refine blockExitNe rfl ?_
      | (with_reducible refine W_region_k ?_
         intro K hK
         simp (maxSteps := 2000000) (disch := omega) only [SA, ofValue, ofCell, bin, intBin, un, idx, Go.Ev.builtin, calleeOf, V.isNilS, V.depthOk, depth1, V.ok1, V.isAgg, V.cells, isConst, Nat.reduceBEq, Nat.reduceEqDiff, ↓reduceIte, Nat.reduceLeDiff, Nat.reduceAdd, Nat.reduceMul, Nat.reduceSub, Nat.reduceLT, Int.reduceAdd, Int.reduceSub, Int.reduceMul, Int.reduceLT, Int.reduceLE, Int.reduceToNat, Int.reduceNeg, reduceIte, reduceCtorEq, SPx]
         refine hK _ _ ?_
         clear hK K)
    )
    refine end_ret hd (by simp (maxSteps := 2000000) (disch := omega) only [Tryd.results43, resVars, resVar, SA, ofValue, ofCell, bin, intBin, un, idx, Go.Ev.builtin, calleeOf, V.isNilS, V.depthOk, depth1, V.ok1, V.isAgg, V.cells, isConst, Nat.reduceBEq, Nat.reduceEqDiff, ↓reduceIte, Nat.reduceLeDiff, Nat.reduceAdd, Nat.reduceMul, Nat.reduceSub, Nat.reduceLT, Int.reduceAdd, Int.reduceSub, Int.reduceMul, Int.reduceLT, Int.reduceLE, Int.reduceToNat, Int.reduceNeg, reduceIte, reduceCtorEq, SPx]; rfl) ?_
    simp (maxSteps := 2000000) (disch := omega) only [SA, ofValue, ofCell, bin, intBin, un, idx, Go.Ev.builtin, calleeOf, V.isNilS, V.depthOk, depth1, V.ok1, V.isAgg, V.cells, isConst, Nat.reduceBEq, Nat.reduceEqDiff, ↓reduceIte, Nat.reduceLeDiff, Nat.reduceAdd, Nat.reduceMul, Nat.reduceSub, Nat.reduceLT, Int.reduceAdd, Int.reduceSub, Int.reduceMul, Int.reduceLT, Int.reduceLE, Int.reduceToNat, Int.reduceNeg, reduceIte, reduceCtorEq, true_and, and_true, Nat.zero_add, Nat.le_refl, if_true, ↓reduceIte, resOf, X_own, mv_int, mv_bool, mv_str, mv_sl, mv_nilS, mv_tup, mv2s_nil, mv2s_cons, mv2_int, mv2_bool, mv2_str, mv2_sl, mv2_nilS, Option.map_some, vi, vn, SPx]
    rw [whS, if_pos h]
  have hc : chk a = 0 := by simpa using h
  rw [whS, if_neg (fun e => e hc)]
  obtain ⟨b1, b2, b3, b4, _⟩ := chk_ok hc
  rw [b1] at h0
  have hb := numI_lt hc
  have q1 : Ans X 86 [.sl (nats (natsOf a)), vi 0] (.ret (wv (numI a * 60 ^ 72))) := P86 (natsOf a) 0 72 rfl b2 (by omega)
  have q2 := P105 (numI a * 60 ^ 72) (by
    calc numI a * 60 ^ 72 < 60 ^ 16 * 60 ^ 72 := Nat.mul_lt_mul_of_pos_right hb (by decide)
      _ ≤ 60 ^ 168 := by decide)
  rw [Nat.mul_div_cancel _ (pow_pos 72)] at q2
  clear h hb b1 b2 b3 b4
  by_cases c : numI a ≤ 1099511627776
  · rw [if_pos c] at q2 ⊢
    clear c
    repeat (first
      | with_reducible first | refine W_seq ?_ | refine W_skip ?_ | refine W_label ?_ | refine W_ret ?_ | refine W_exit ?_ | refine W_block ?_ | refine thenI ?_ | refine thenRet ?_ | refine thenExit ?_ | refine blockRet ?_ | refine blockI ?_ | refine blockExit ?_ | refine blockExitNe rfl ?_
      | (with_reducible refine W_region_k ?_
         intro K hK
         simp (maxSteps := 2000000) (disch := omega) only [SA, ofValue, ofCell, bin, intBin, un, idx, Go.Ev.builtin, calleeOf, V.isNilS, V.depthOk, depth1, V.ok1, V.isAgg, V.cells, isConst, Nat.reduceBEq, Nat.reduceEqDiff, ↓reduceIte, Nat.reduceLeDiff, Nat.reduceAdd, Nat.reduceMul, Nat.reduceSub, Nat.reduceLT, Int.reduceAdd, Int.reduceSub, Int.reduceMul, Int.reduceLT, Int.reduceLE, Int.reduceToNat, Int.reduceNeg, reduceIte, reduceCtorEq, SPx, SWx, h0, un, co86, sr86, co105, sr105, q1.iff, q2.iff]
         refine hK _ _ ?_
         clear hK K)
    )
    with_reducible refine W_cond2 (by simp only [SO, ofValue, ofCell, Nat.reduceBEq, Nat.reduceEqDiff, ↓reduceIte]; rfl) (fun h => ?_) (fun h => ?_)
    · simp at h
    repeat (first
      | with_reducible first | refine W_seq ?_ | refine W_skip ?_ | refine W_label ?_ | refine W_ret ?_ | refine W_exit ?_ | refine W_block ?_ | refine thenI ?_ | refine thenRet ?_ | refine thenExit ?_ | refine blockRet ?_ | refine blockI ?_ | refine blockExit ?_ | refine blockExitNe rfl ?_
      | (with_reducible refine W_region_k ?_
         intro K hK
         simp (maxSteps := 2000000) (disch := omega) only [SA, ofValue, ofCell, bin, intBin, un, idx, Go.Ev.builtin, calleeOf, V.isNilS, V.depthOk, depth1, V.ok1, V.isAgg, V.cells, isConst, Nat.reduceBEq, Nat.reduceEqDiff, ↓reduceIte, Nat.reduceLeDiff, Nat.reduceAdd, Nat.reduceMul, Nat.reduceSub, Nat.reduceLT, Int.reduceAdd, Int.reduceSub, Int.reduceMul, Int.reduceLT, Int.reduceLE, Int.reduceToNat, Int.reduceNeg, reduceIte, reduceCtorEq, SPx]
         refine hK _ _ ?_
         clear hK K)
    )
    refine end_ret hd (by simp (maxSteps := 2000000) (disch := omega) only [Tryd.results43, resVars, resVar, SA, ofValue, ofCell, bin, intBin, un, idx, Go.Ev.builtin, calleeOf, V.isNilS, V.depthOk, depth1, V.ok1, V.isAgg, V.cells, isConst, Nat.reduceBEq, Nat.reduceEqDiff, ↓reduceIte, Nat.reduceLeDiff, Nat.reduceAdd, Nat.reduceMul, Nat.reduceSub, Nat.reduceLT, Int.reduceAdd, Int.reduceSub, Int.reduceMul, Int.reduceLT, Int.reduceLE, Int.reduceToNat, Int.reduceNeg, reduceIte, reduceCtorEq, SPx]; rfl) ?_
    simp (maxSteps := 2000000) (disch := omega) only [SA, ofValue, ofCell, bin, intBin, un, idx, Go.Ev.builtin, calleeOf, V.isNilS, V.depthOk, depth1, V.ok1, V.isAgg, V.cells, isConst, Nat.reduceBEq, Nat.reduceEqDiff, ↓reduceIte, Nat.reduceLeDiff, Nat.reduceAdd, Nat.reduceMul, Nat.reduceSub, Nat.reduceLT, Int.reduceAdd, Int.reduceSub, Int.reduceMul, Int.reduceLT, Int.reduceLE, Int.reduceToNat, Int.reduceNeg, reduceIte, reduceCtorEq, true_and, and_true, Nat.zero_add, Nat.le_refl, if_true, ↓reduceIte, resOf, X_own, mv_int, mv_bool, mv_str, mv_sl, mv_nilS, mv_tup, mv2s_nil, mv2s_cons, mv2_int, mv2_bool, mv2_str, mv2_sl, mv2_nilS, Option.map_some, vi, vn, SPx]
  · rw [if_neg c] at q2 ⊢
    clear c
    repeat (first
      | with_reducible first | refine W_seq ?_ | refine W_skip ?_ | refine W_label ?_ | refine W_ret ?_ | refine W_exit ?_ | refine W_block ?_ | refine thenI ?_ | refine thenRet ?_ | refine thenExit ?_ | refine blockRet ?_ | refine blockI ?_ | refine blockExit ?_ | refine blockExitNe rfl ?_
      | (with_reducible refine W_region_k ?_
         intro K hK
         simp (maxSteps := 2000000) (disch := omega) only [SA, ofValue, ofCell, bin, intBin, un, idx, Go.Ev.builtin, calleeOf, V.isNilS, V.depthOk, depth1, V.ok1, V.isAgg, V.cells, isConst, Nat.reduceBEq, Nat.reduceEqDiff, ↓reduceIte, Nat.reduceLeDiff, Nat.reduceAdd, Nat.reduceMul, Nat.reduceSub, Nat.reduceLT, Int.reduceAdd, Int.reduceSub, Int.reduceMul, Int.reduceLT, Int.reduceLE, Int.reduceToNat, Int.reduceNeg, reduceIte, reduceCtorEq, SPx, SWx, h0, un, co86, sr86, co105, sr105, q1.iff, q2.iff]
         refine hK _ _ ?_
         clear hK K)
    )
    with_reducible refine W_cond2 (by simp only [SO, ofValue, ofCell, Nat.reduceBEq, Nat.reduceEqDiff, ↓reduceIte]; rfl) (fun h => ?_) (fun h => ?_)
    · repeat (first
        | with_reducible first | refine W_seq ?_ | refine W_skip ?_ | refine W_label ?_ | refine W_ret ?_ | refine W_exit ?_ | refine W_block ?_ | refine thenI ?_ | refine thenRet ?_ | refine thenExit ?_ | refine blockRet ?_ | refine blockI ?_ | refine blockExit ?_ | refine blockExitNe rfl ?_
        | (with_reducible refine W_region_k ?_
           intro K hK
           simp (maxSteps := 2000000) (disch := omega) only [SA, ofValue, ofCell, bin, intBin, un, idx, Go.Ev.builtin, calleeOf, V.isNilS, V.depthOk, depth1, V.ok1, V.isAgg, V.cells, isConst, Nat.reduceBEq, Nat.reduceEqDiff, ↓reduceIte, Nat.reduceLeDiff, Nat.reduceAdd, Nat.reduceMul, Nat.reduceSub, Nat.reduceLT, Int.reduceAdd, Int.reduceSub, Int.reduceMul, Int.reduceLT, Int.reduceLE, Int.reduceToNat, Int.reduceNeg, reduceIte, reduceCtorEq, SPx]
           refine hK _ _ ?_
           clear hK K)
      )
      refine end_ret hd (by simp (maxSteps := 2000000) (disch := omega) only [Tryd.results43, resVars, resVar, SA, ofValue, ofCell, bin, intBin, un, idx, Go.Ev.builtin, calleeOf, V.isNilS, V.depthOk, depth1, V.ok1, V.isAgg, V.cells, isConst, Nat.reduceBEq, Nat.reduceEqDiff, ↓reduceIte, Nat.reduceLeDiff, Nat.reduceAdd, Nat.reduceMul, Nat.reduceSub, Nat.reduceLT, Int.reduceAdd, Int.reduceSub, Int.reduceMul, Int.reduceLT, Int.reduceLE, Int.reduceToNat, Int.reduceNeg, reduceIte, reduceCtorEq, SPx]; rfl) ?_
      simp (maxSteps := 2000000) (disch := omega) only [SA, ofValue, ofCell, bin, intBin, un, idx, Go.Ev.builtin, calleeOf, V.isNilS, V.depthOk, depth1, V.ok1, V.isAgg, V.cells, isConst, Nat.reduceBEq, Nat.reduceEqDiff, ↓reduceIte, Nat.reduceLeDiff, Nat.reduceAdd, Nat.reduceMul, Nat.reduceSub, Nat.reduceLT, Int.reduceAdd, Int.reduceSub, Int.reduceMul, Int.reduceLT, Int.reduceLE, Int.reduceToNat, Int.reduceNeg, reduceIte, reduceCtorEq, true_and, and_true, Nat.zero_add, Nat.le_refl, if_true, ↓reduceIte, resOf, X_own, mv_int, mv_bool, mv_str, mv_sl, mv_nilS, mv_tup, mv2s_nil, mv2s_cons, mv2_int, mv2_bool, mv2_str, mv2_sl, mv2_nilS, Option.map_some, vi, vn, SPx]
    · simp at h
end Go.Proofs.YtpocekfifokndaaDoor
namespace Go.Proofs.YtpocekfifokndaaDoor
open Go Go.Ev Go.Pl
set_option maxRecDepth 100000
set_option maxHeartbeats 4000000
theorem Q36 {N : Nat} (h : N ≤ 1099511627776) : Ans X 36 [vn N] (.ret (.tup [.sl (nats (digB N)), vi 0])) := by
  have q := P36 (N : Int)
  rw [ofS, if_neg (by omega), Int.toNat_natCast] at q
  exact q
theorem Q43 {a : List Nat} (ha : Val 16 a) (h : numL a.reverse ≤ 1099511627776) : Ans X 43 [.sl (nats a)] (.ret (.tup [vn (numL a.reverse), vi 0])) := by
  have q := P43 (zi a)
  rw [whS, if_neg (fun e => e ha.chk), numI_zi, if_pos h, ← nats_zi] at q
  exact q
theorem Q43b {a : List Nat} (ha : Val 16 a) (h : ¬ numL a.reverse ≤ 1099511627776) : Ans X 43 [.sl (nats a)] (.ret (.tup [vi 0, vi 6])) := by
  have q := P43 (zi a)
  rw [whS, if_neg (fun e => e ha.chk), numI_zi, if_neg h, ← nats_zi] at q
  exact q
theorem core_mod {N : Nat} (h : 0 < N) : core N % 60 ≠ 0 ∧ 0 < core N := ⟨(vz_spec h).2.2, (vz_spec h).2.1⟩
theorem P9 (n : Int) (raw : List Int) (hraw : raw.length < 9223372036854775808) : Ans X 9 [vi n, .sl (ints raw)] (.ret (.bool true)) := by
  refine call_of_X (fn := Tryd.f9) 2 Tryd.func9 rfl (by decide +kernel) rfl ?_ ?_ ?_ ?_
  · rfl
  · exact fun _ => rfl
  · intro v hv; injection hv with hv; subst hv; rfl
  intro s hs hd ho
  have hm : s.m = ⟨.nil, []⟩ := by subst hs; rfl
  have h0 : s.t.get 0 = vi n := by subst hs; rfl
  have h1 : s.t.get 1 = .sl (ints raw) := by subst hs; rfl
  clear hs
  have q33 := P33 n 1099511627777 (by decide)
  obtain ⟨N, hNb, hN⟩ : ∃ N : Nat, bringI n 1099511627777 = N ∧ N ≤ 1099511627776 := by
    have e : bringI n 1099511627777 = n % 1099511627777 := by rw [bringI, if_neg (by decide)]
    have h1 := Int.emod_nonneg n (by decide : (1099511627777 : Int) ≠ 0)
    have h2 := Int.emod_lt_of_pos n (by decide : (0 : Int) < 1099511627777)
    refine ⟨(n % 1099511627777).toNat, ?_, ?_⟩
    · rw [e]; omega
    · omega
  rw [hNb] at q33
  have q36 := Q36 hN
  have hN16 : N < 60 ^ 16 := by omega
  have vN := digB_val hN16
  have hcl : core N ≤ N := Nat.div_le_self _ _
  have q43 := Q43 vN (by rw [num_digB]; omega)
  rw [num_digB] at q43
  have hce := core_eq N
  have hcm := core_mod (N := N)
  have q27 : Ans X 27 [.sl (ints raw), vi 8] _ := P27 raw 8 hraw (by decide)
  have vb := made_val raw 8
  generalize madeS raw 8 = b at q27 vb
  have b16 := vb.mono (m := 16) (by decide)
  clear hNb hN16 vN hraw
  generalize core N = m at *
  generalize hv : vz N = v at hce
  clear hv
  generalize digB N = a at *
  repeat (first
    | with_reducible first | refine W_seq ?_ | refine W_skip ?_ | refine W_label ?_ | refine W_ret ?_ | refine W_exit ?_ | refine W_block ?_ | refine thenI ?_ | refine thenRet ?_ | refine thenExit ?_ | refine blockRet ?_ | refine blockI ?_ | refine blockExit ?_ | refine blockExitNe rfl ?_
    | (with_reducible refine W_region_k ?_
       intro K hK
       simp (maxSteps := 2000000) (disch := omega) only [SA, ofValue, ofCell, bin, intBin, un, idx, Go.Ev.builtin, calleeOf, V.isNilS, V.depthOk, depth1, V.ok1, V.isAgg, V.cells, isConst, Nat.reduceBEq, Nat.reduceEqDiff, ↓reduceIte, Nat.reduceLeDiff, Nat.reduceAdd, Nat.reduceMul, Nat.reduceSub, Nat.reduceLT, Int.reduceAdd, Int.reduceSub, Int.reduceMul, Int.reduceLT, Int.reduceLE, Int.reduceToNat, Int.reduceNeg, reduceIte, reduceCtorEq, SPx, h0, h1, hm, co33, sr33, q33.iff, co36, sr36, q36.iff, co43, sr43, q43.iff]
       refine hK _ _ ?_
       clear hK K)
  )
  refine W_mid (fun s => s.dfs = [] ∧ s.m.out.length = 0 ∧ s.t.get 55 = .bool false ∧ s.t.get 0 = vn N ∧ s.t.get 1 = .sl (ints raw) ∧ s.t.get 7 = vn m) ?_ ?_
  · rcases Nat.eq_zero_or_pos N with hz | hp
    · have hmz : m = 0 := by omega
      have e1 : (((N : Nat) : Int) == 0) = true := by rw [hz]; rfl
      have e2 : (((m : Nat) : Int) != 0) = false := by rw [hmz]; rfl
      have e3 : ¬ ((N : Nat) : Int) > 0 := by omega
      repeat (first
        | with_reducible first | refine W_seq ?_ | refine W_skip ?_ | refine W_label ?_ | refine W_ret ?_ | refine W_exit ?_ | refine W_block ?_ | refine thenI ?_ | refine thenRet ?_ | refine thenExit ?_ | refine blockRet ?_ | refine blockI ?_ | refine blockExit ?_ | refine blockExitNe rfl ?_
        | (with_reducible refine W_region_k ?_
           intro K hK
           simp (maxSteps := 2000000) (disch := omega) only [SA, ofValue, ofCell, bin, intBin, un, idx, Go.Ev.builtin, calleeOf, V.isNilS, V.depthOk, depth1, V.ok1, V.isAgg, V.cells, isConst, Nat.reduceBEq, Nat.reduceEqDiff, ↓reduceIte, Nat.reduceLeDiff, Nat.reduceAdd, Nat.reduceMul, Nat.reduceSub, Nat.reduceLT, Int.reduceAdd, Int.reduceSub, Int.reduceMul, Int.reduceLT, Int.reduceLE, Int.reduceToNat, Int.reduceNeg, reduceIte, reduceCtorEq, SPx, bne_self_eq_false, e1, e2, e3]
           refine hK _ _ ?_
           clear hK K)
      )
      refine ⟨hd, ?_, ?_, ?_, ?_, ?_⟩
      all_goals (try simp (maxSteps := 2000000) (disch := omega) only [SO, ofValue, ofCell, Nat.reduceBEq, Nat.reduceEqDiff, ↓reduceIte, and_self, and_true, true_and, Mem.newRef_eq, Mem.gen_nil, Mem.gen_new, Mem.gen_set, Mem.row_new, Mem.row_setW, Mem.new_out, Mem.set_out, List.length_nil, List.length_cons, Nat.zero_le, Nat.le_refl, Nat.reduceLeDiff, Nat.reduceAdd, and_self, and_true, true_and, Nat.zero_add, ho, h1])
    · obtain ⟨c1, c2⟩ := hcm hp
      have e1 : (((N : Nat) : Int) == 0) = false := by rw [beq_eq_false_iff_ne]; omega
      have e3 : ((N : Nat) : Int) > 0 := by omega
      have e4 : ¬ ((m : Nat) : Int) < 1 := by omega
      have e5 : ¬ ((m : Nat) : Int) > ((N : Nat) : Int) := by omega
      have e6 : V.int .i64 (Int.tmod ((m : Nat) : Int) 60) = vn (m % 60) := rfl
      have e7 : (((m % 60 : Nat) : Int) == 0) = false := by rw [beq_eq_false_iff_ne]; omega
      repeat (first
        | with_reducible first | refine W_seq ?_ | refine W_skip ?_ | refine W_label ?_ | refine W_ret ?_ | refine W_exit ?_ | refine W_block ?_ | refine thenI ?_ | refine thenRet ?_ | refine thenExit ?_ | refine blockRet ?_ | refine blockI ?_ | refine blockExit ?_ | refine blockExitNe rfl ?_
        | (with_reducible refine W_region_k ?_
           intro K hK
           simp (maxSteps := 2000000) (disch := omega) only [SA, ofValue, ofCell, bin, intBin, un, idx, Go.Ev.builtin, calleeOf, V.isNilS, V.depthOk, depth1, V.ok1, V.isAgg, V.cells, isConst, Nat.reduceBEq, Nat.reduceEqDiff, ↓reduceIte, Nat.reduceLeDiff, Nat.reduceAdd, Nat.reduceMul, Nat.reduceSub, Nat.reduceLT, Int.reduceAdd, Int.reduceSub, Int.reduceMul, Int.reduceLT, Int.reduceLE, Int.reduceToNat, Int.reduceNeg, reduceIte, reduceCtorEq, SPx, bne_self_eq_false, e1, e3, e4, e5, e6, e7, Int.reduceEq]
           refine hK _ _ ?_
           clear hK K)
      )
      refine ⟨hd, ?_, ?_, ?_, ?_, ?_⟩
      all_goals (try simp (maxSteps := 2000000) (disch := omega) only [SO, ofValue, ofCell, Nat.reduceBEq, Nat.reduceEqDiff, ↓reduceIte, and_self, and_true, true_and, Mem.newRef_eq, Mem.gen_nil, Mem.gen_new, Mem.gen_set, Mem.row_new, Mem.row_setW, Mem.new_out, Mem.set_out, List.length_nil, List.length_cons, Nat.zero_le, Nat.le_refl, Nat.reduceLeDiff, Nat.reduceAdd, and_self, and_true, true_and, Nat.zero_add, ho, h1])
  clear hd ho hm h0 h1 q33 q36 q43
  rintro s ⟨hd, ho, h55, h0, h1, h7⟩
  repeat (first
    | with_reducible first | refine W_seq ?_ | refine W_skip ?_ | refine W_label ?_ | refine W_ret ?_ | refine W_exit ?_ | refine W_block ?_ | refine thenI ?_ | refine thenRet ?_ | refine thenExit ?_ | refine blockRet ?_ | refine blockI ?_ | refine blockExit ?_ | refine blockExitNe rfl ?_
    | (with_reducible refine W_region_k ?_
       intro K hK
       simp (maxSteps := 2000000) (disch := omega) only [SA, ofValue, ofCell, bin, intBin, un, idx, Go.Ev.builtin, calleeOf, V.isNilS, V.depthOk, depth1, V.ok1, V.isAgg, V.cells, isConst, Nat.reduceBEq, Nat.reduceEqDiff, ↓reduceIte, Nat.reduceLeDiff, Nat.reduceAdd, Nat.reduceMul, Nat.reduceSub, Nat.reduceLT, Int.reduceAdd, Int.reduceSub, Int.reduceMul, Int.reduceLT, Int.reduceLE, Int.reduceToNat, Int.reduceNeg, reduceIte, reduceCtorEq, h55]
       refine hK _ _ ?_
       clear hK K)
  )
  with_reducible refine W_cond2 (by simp only [SO, ofValue, ofCell, Nat.reduceBEq, Nat.reduceEqDiff, ↓reduceIte, h55]; rfl) (fun h => ?_) (fun h => ?_)
  · simp at h
  clear h
  repeat (first
    | with_reducible first | refine W_seq ?_ | refine W_skip ?_ | refine W_label ?_ | refine W_ret ?_ | refine W_exit ?_ | refine W_block ?_ | refine thenI ?_ | refine thenRet ?_ | refine thenExit ?_ | refine blockRet ?_ | refine blockI ?_ | refine blockExit ?_ | refine blockExitNe rfl ?_
    | (with_reducible refine W_region_k ?_
       intro K hK
       simp (maxSteps := 2000000) (disch := omega) only [SA, ofValue, ofCell, bin, intBin, un, idx, Go.Ev.builtin, calleeOf, V.isNilS, V.depthOk, depth1, V.ok1, V.isAgg, V.cells, isConst, Nat.reduceBEq, Nat.reduceEqDiff, ↓reduceIte, Nat.reduceLeDiff, Nat.reduceAdd, Nat.reduceMul, Nat.reduceSub, Nat.reduceLT, Int.reduceAdd, Int.reduceSub, Int.reduceMul, Int.reduceLT, Int.reduceLE, Int.reduceToNat, Int.reduceNeg, reduceIte, reduceCtorEq, SPx]
       refine hK _ _ ?_
       clear hK K)
  )
  refine W_loopg (fun (t : Nat) s => s.dfs = [] ∧ s.m.out.length = 0 ∧ s.t.get 0 = vn N ∧ s.t.get 1 = .sl (ints raw) ∧ s.t.get 7 = vn (m * 60 ^ t) ∧ t ≤ v) (fun t => v - t) 0 ?_ ?_
  · rw [Nat.pow_zero, Nat.mul_one]
    refine ⟨hd, ?_, ?_, ?_, ?_, Nat.zero_le _⟩
    all_goals (try simp (maxSteps := 2000000) (disch := omega) only [SO, ofValue, ofCell, Nat.reduceBEq, Nat.reduceEqDiff, ↓reduceIte, and_self, and_true, true_and, Mem.newRef_eq, Mem.gen_nil, Mem.gen_new, Mem.gen_set, Mem.row_new, Mem.row_setW, Mem.new_out, Mem.set_out, List.length_nil, List.length_cons, Nat.zero_le, Nat.le_refl, Nat.reduceLeDiff, Nat.reduceAdd, and_self, and_true, true_and, Nat.zero_add, ho, h0, h1, h7])
  clear hd ho h0 h1 h7 h55
  rintro t s ⟨hd, ho, h0, h1, h7, ht⟩
  by_cases c : 0 < m * 60 ^ t ∧ m * 60 ^ t < N
  · have htv : t < v := by
      rcases Nat.lt_or_ge t v with h | h
      · exact h
      · obtain rfl : t = v := by omega
        omega
    have hle : m * 60 ^ (t + 1) ≤ N := by
      have : 60 ^ (t + 1) ≤ 60 ^ v := Nat.pow_le_pow_right (by decide) htv
      have := Nat.mul_le_mul_left m this
      omega
    have hpe : m * 60 ^ (t + 1) = m * 60 ^ t * 60 := by rw [Nat.pow_succ, Nat.mul_assoc]
    generalize hM2 : m * 60 ^ (t + 1) = M2 at hle hpe
    generalize m * 60 ^ t = M1 at *
    have e1 : ((M1 : Nat) : Int) > 0 := by omega
    have e2 : ((M1 : Nat) : Int) < ((N : Nat) : Int) := by omega
    have e3 : V.int .i64 (wr .i64 ((M1 : Int) * 60)) = vn M2 := by rw [cast_mul60, wr_nat (by omega), hpe]
    clear hce hpe hle
    repeat (first
      | with_reducible first | refine W_seq ?_ | refine W_skip ?_ | refine W_label ?_ | refine W_ret ?_ | refine W_exit ?_ | refine W_block ?_ | refine thenI ?_ | refine thenRet ?_ | refine thenExit ?_ | refine blockRet ?_ | refine blockI ?_ | refine blockExit ?_ | refine blockExitNe rfl ?_
      | (with_reducible refine W_region_k ?_
         intro K hK
         simp (maxSteps := 2000000) (disch := omega) only [SA, ofValue, ofCell, bin, intBin, un, idx, Go.Ev.builtin, calleeOf, V.isNilS, V.depthOk, depth1, V.ok1, V.isAgg, V.cells, isConst, Nat.reduceBEq, Nat.reduceEqDiff, ↓reduceIte, Nat.reduceLeDiff, Nat.reduceAdd, Nat.reduceMul, Nat.reduceSub, Nat.reduceLT, Int.reduceAdd, Int.reduceSub, Int.reduceMul, Int.reduceLT, Int.reduceLE, Int.reduceToNat, Int.reduceNeg, reduceIte, reduceCtorEq, SPx, h0, h7, e1, e2]
         refine hK _ _ ?_
         clear hK K)
    )
    with_reducible refine W_cond2 (by simp only [SO, ofValue, ofCell, Nat.reduceBEq, Nat.reduceEqDiff, ↓reduceIte]; rfl) (fun h => ?_) (fun h => ?_)
    · repeat (first
        | with_reducible first | refine W_seq ?_ | refine W_skip ?_ | refine W_label ?_ | refine W_ret ?_ | refine W_exit ?_ | refine W_block ?_ | refine thenI ?_ | refine thenRet ?_ | refine thenExit ?_ | refine blockRet ?_ | refine blockI ?_ | refine blockExit ?_ | refine blockExitNe rfl ?_
        | (with_reducible refine W_region_k ?_
           intro K hK
           simp (maxSteps := 2000000) (disch := omega) only [SA, ofValue, ofCell, bin, intBin, un, idx, Go.Ev.builtin, calleeOf, V.isNilS, V.depthOk, depth1, V.ok1, V.isAgg, V.cells, isConst, Nat.reduceBEq, Nat.reduceEqDiff, ↓reduceIte, Nat.reduceLeDiff, Nat.reduceAdd, Nat.reduceMul, Nat.reduceSub, Nat.reduceLT, Int.reduceAdd, Int.reduceSub, Int.reduceMul, Int.reduceLT, Int.reduceLE, Int.reduceToNat, Int.reduceNeg, reduceIte, reduceCtorEq, SPx, h7, e3]
           refine hK _ _ ?_
           clear hK K)
      )
      refine ⟨t + 1, ⟨hd, ?_, ?_, ?_, ?_, htv⟩, by omega⟩
      all_goals (try simp (maxSteps := 2000000) (disch := omega) only [SO, ofValue, ofCell, Nat.reduceBEq, Nat.reduceEqDiff, ↓reduceIte, and_self, and_true, true_and, Mem.newRef_eq, Mem.gen_nil, Mem.gen_new, Mem.gen_set, Mem.row_new, Mem.row_setW, Mem.new_out, Mem.set_out, List.length_nil, List.length_cons, Nat.zero_le, Nat.le_refl, Nat.reduceLeDiff, Nat.reduceAdd, and_self, and_true, true_and, Nat.zero_add, ho, h0, h1, hM2])
    · simp at h
  · have hMN : m * 60 ^ t = N := by
      rcases Nat.eq_zero_or_pos m with hz | hp
      · subst hz; rw [Nat.zero_mul] at hce ⊢; omega
      · have h1 : 0 < m * 60 ^ t := Nat.mul_pos hp (pow_pos t)
        have h2 : m * 60 ^ t ≤ m * 60 ^ v := Nat.mul_le_mul_left m (Nat.pow_le_pow_right (by decide) ht)
        omega
    rw [hMN] at h7 c
    clear hMN hce hcm hcl
    rcases Nat.eq_zero_or_pos N with hz | hp
    · have e1 : ¬ ((N : Nat) : Int) > 0 := by omega
      repeat (first
        | with_reducible first | refine W_seq ?_ | refine W_skip ?_ | refine W_label ?_ | refine W_ret ?_ | refine W_exit ?_ | refine W_block ?_ | refine thenI ?_ | refine thenRet ?_ | refine thenExit ?_ | refine blockRet ?_ | refine blockI ?_ | refine blockExit ?_ | refine blockExitNe rfl ?_
        | (with_reducible refine W_region_k ?_
           intro K hK
           simp (maxSteps := 2000000) (disch := omega) only [SA, ofValue, ofCell, bin, intBin, un, idx, Go.Ev.builtin, calleeOf, V.isNilS, V.depthOk, depth1, V.ok1, V.isAgg, V.cells, isConst, Nat.reduceBEq, Nat.reduceEqDiff, ↓reduceIte, Nat.reduceLeDiff, Nat.reduceAdd, Nat.reduceMul, Nat.reduceSub, Nat.reduceLT, Int.reduceAdd, Int.reduceSub, Int.reduceMul, Int.reduceLT, Int.reduceLE, Int.reduceToNat, Int.reduceNeg, reduceIte, reduceCtorEq, SPx, h0, h7, e1]
           refine hK _ _ ?_
           clear hK K)
      )
      with_reducible refine W_cond2 (by simp only [SO, ofValue, ofCell, Nat.reduceBEq, Nat.reduceEqDiff, ↓reduceIte]; rfl) (fun h => ?_) (fun h => ?_)
      · simp at h
      clear h
      repeat (first
        | with_reducible first | refine W_seq ?_ | refine W_skip ?_ | refine W_label ?_ | refine W_ret ?_ | refine W_exit ?_ | refine W_block ?_ | refine thenI ?_ | refine thenRet ?_ | refine thenExit ?_ | refine blockRet ?_ | refine blockI ?_ | refine blockExit ?_ | refine blockExitNe rfl ?_
        | (with_reducible refine W_region_k ?_
           intro K hK
           simp (maxSteps := 2000000) (disch := omega) only [SA, ofValue, ofCell, bin, intBin, un, idx, Go.Ev.builtin, calleeOf, V.isNilS, V.depthOk, depth1, V.ok1, V.isAgg, V.cells, isConst, Nat.reduceBEq, Nat.reduceEqDiff, ↓reduceIte, Nat.reduceLeDiff, Nat.reduceAdd, Nat.reduceMul, Nat.reduceSub, Nat.reduceLT, Int.reduceAdd, Int.reduceSub, Int.reduceMul, Int.reduceLT, Int.reduceLE, Int.reduceToNat, Int.reduceNeg, reduceIte, reduceCtorEq, SPx, h0, h1, h7, bne_self_eq_false]
           refine hK _ _ ?_
           clear hK K)
      )
      with_reducible refine W_cond2 (by simp only [SO, ofValue, ofCell, Nat.reduceBEq, Nat.reduceEqDiff, ↓reduceIte]; rfl) (fun h => ?_) (fun h => ?_)
      · simp at h
      clear h
      by_cases cb : numL b.reverse ≤ 1099511627776
      · have q43 := Q43 b16 cb
        have q36 := Q36 cb
        rw [vb.digB] at q36
        have q29 := Q29 b b 0 (Nat.lt_of_le_of_lt b16.len (by decide))
        rw [decide_eq_true ⟨rfl, rfl⟩] at q29
        clear cb b16 vb
        repeat (first
          | with_reducible first | refine W_seq ?_ | refine W_skip ?_ | refine W_label ?_ | refine W_ret ?_ | refine W_exit ?_ | refine W_block ?_ | refine thenI ?_ | refine thenRet ?_ | refine thenExit ?_ | refine blockRet ?_ | refine blockI ?_ | refine blockExit ?_ | refine blockExitNe rfl ?_
          | (with_reducible refine W_region_k ?_
             intro K hK
             simp (maxSteps := 2000000) (disch := omega) only [SA, ofValue, ofCell, bin, intBin, un, idx, Go.Ev.builtin, calleeOf, V.isNilS, V.depthOk, depth1, V.ok1, V.isAgg, V.cells, isConst, Nat.reduceBEq, Nat.reduceEqDiff, ↓reduceIte, Nat.reduceLeDiff, Nat.reduceAdd, Nat.reduceMul, Nat.reduceSub, Nat.reduceLT, Int.reduceAdd, Int.reduceSub, Int.reduceMul, Int.reduceLT, Int.reduceLE, Int.reduceToNat, Int.reduceNeg, reduceIte, reduceCtorEq, SPx, h1, co27, sr27, q27.iff, co43, sr43, q43.iff]
             refine hK _ _ ?_
             clear hK K)
        )
        with_reducible refine W_cond2 (by simp only [SO, ofValue, ofCell, Nat.reduceBEq, Nat.reduceEqDiff, ↓reduceIte]; rfl) (fun h => ?_) (fun h => ?_)
        · simp at h
        clear h
        repeat (first
          | with_reducible first | refine W_seq ?_ | refine W_skip ?_ | refine W_label ?_ | refine W_ret ?_ | refine W_exit ?_ | refine W_block ?_ | refine thenI ?_ | refine thenRet ?_ | refine thenExit ?_ | refine blockRet ?_ | refine blockI ?_ | refine blockExit ?_ | refine blockExitNe rfl ?_
          | (with_reducible refine W_region_k ?_
             intro K hK
             simp (maxSteps := 2000000) (disch := omega) only [SA, ofValue, ofCell, bin, intBin, un, idx, Go.Ev.builtin, calleeOf, V.isNilS, V.depthOk, depth1, V.ok1, V.isAgg, V.cells, isConst, Nat.reduceBEq, Nat.reduceEqDiff, ↓reduceIte, Nat.reduceLeDiff, Nat.reduceAdd, Nat.reduceMul, Nat.reduceSub, Nat.reduceLT, Int.reduceAdd, Int.reduceSub, Int.reduceMul, Int.reduceLT, Int.reduceLE, Int.reduceToNat, Int.reduceNeg, reduceIte, reduceCtorEq, SPx, co36, sr36, q36.iff, co29, sr29, q29.iff, co26, sr26, P26.iff]
             refine hK _ _ ?_
             clear hK K)
        )
        refine end_ret hd (by simp (maxSteps := 2000000) (disch := omega) only [Tryd.results9, resVars, resVar, SA, ofValue, ofCell, bin, intBin, un, idx, Go.Ev.builtin, calleeOf, V.isNilS, V.depthOk, depth1, V.ok1, V.isAgg, V.cells, isConst, Nat.reduceBEq, Nat.reduceEqDiff, ↓reduceIte, Nat.reduceLeDiff, Nat.reduceAdd, Nat.reduceMul, Nat.reduceSub, Nat.reduceLT, Int.reduceAdd, Int.reduceSub, Int.reduceMul, Int.reduceLT, Int.reduceLE, Int.reduceToNat, Int.reduceNeg, reduceIte, reduceCtorEq, SPx]; rfl) ?_
        simp (maxSteps := 2000000) (disch := omega) only [SA, ofValue, ofCell, bin, intBin, un, idx, Go.Ev.builtin, calleeOf, V.isNilS, V.depthOk, depth1, V.ok1, V.isAgg, V.cells, isConst, Nat.reduceBEq, Nat.reduceEqDiff, ↓reduceIte, Nat.reduceLeDiff, Nat.reduceAdd, Nat.reduceMul, Nat.reduceSub, Nat.reduceLT, Int.reduceAdd, Int.reduceSub, Int.reduceMul, Int.reduceLT, Int.reduceLE, Int.reduceToNat, Int.reduceNeg, reduceIte, reduceCtorEq, true_and, and_true, Nat.zero_add, Nat.le_refl, if_true, ↓reduceIte, resOf, X_own, mv_int, mv_bool, mv_str, mv_sl, mv_nilS, mv_tup, mv2s_nil, mv2s_cons, mv2_int, mv2_bool, mv2_str, mv2_sl, mv2_nilS, Option.map_some, vi, vn, SPx]
      · have q43 := Q43b b16 cb
        have hl : ((b.length : Nat) : Int) > 6 := by
          have h1 : numL b.reverse < 60 ^ b.length := by
            have := Go.Pl.num_lt (l := b.reverse) (fun d hd => vb.lt d (List.mem_reverse.1 hd))
            rwa [List.length_reverse] at this
          rcases Nat.lt_or_ge 6 b.length with h | h
          · omega
          · have : 60 ^ b.length ≤ 60 ^ 6 := Nat.pow_le_pow_right (by decide) h
            exfalso
            have h2 : (60 : Nat) ^ 6 = 46656000000 := by decide
            omega
        clear cb b16 vb
        repeat (first
          | with_reducible first | refine W_seq ?_ | refine W_skip ?_ | refine W_label ?_ | refine W_ret ?_ | refine W_exit ?_ | refine W_block ?_ | refine thenI ?_ | refine thenRet ?_ | refine thenExit ?_ | refine blockRet ?_ | refine blockI ?_ | refine blockExit ?_ | refine blockExitNe rfl ?_
          | (with_reducible refine W_region_k ?_
             intro K hK
             simp (maxSteps := 2000000) (disch := omega) only [SA, ofValue, ofCell, bin, intBin, un, idx, Go.Ev.builtin, calleeOf, V.isNilS, V.depthOk, depth1, V.ok1, V.isAgg, V.cells, isConst, Nat.reduceBEq, Nat.reduceEqDiff, ↓reduceIte, Nat.reduceLeDiff, Nat.reduceAdd, Nat.reduceMul, Nat.reduceSub, Nat.reduceLT, Int.reduceAdd, Int.reduceSub, Int.reduceMul, Int.reduceLT, Int.reduceLE, Int.reduceToNat, Int.reduceNeg, reduceIte, reduceCtorEq, SPx, h1, co27, sr27, q27.iff, co43, sr43, q43.iff]
             refine hK _ _ ?_
             clear hK K)
        )
        with_reducible refine W_cond2 (by simp only [SO, ofValue, ofCell, Nat.reduceBEq, Nat.reduceEqDiff, ↓reduceIte]; rfl) (fun h => ?_) (fun h => ?_)
        · repeat (first
            | with_reducible first | refine W_seq ?_ | refine W_skip ?_ | refine W_label ?_ | refine W_ret ?_ | refine W_exit ?_ | refine W_block ?_ | refine thenI ?_ | refine thenRet ?_ | refine thenExit ?_ | refine blockRet ?_ | refine blockI ?_ | refine blockExit ?_ | refine blockExitNe rfl ?_
            | (with_reducible refine W_region_k ?_
               intro K hK
               simp (maxSteps := 2000000) (disch := omega) only [SA, ofValue, ofCell, bin, intBin, un, idx, Go.Ev.builtin, calleeOf, V.isNilS, V.depthOk, depth1, V.ok1, V.isAgg, V.cells, isConst, Nat.reduceBEq, Nat.reduceEqDiff, ↓reduceIte, Nat.reduceLeDiff, Nat.reduceAdd, Nat.reduceMul, Nat.reduceSub, Nat.reduceLT, Int.reduceAdd, Int.reduceSub, Int.reduceMul, Int.reduceLT, Int.reduceLE, Int.reduceToNat, Int.reduceNeg, reduceIte, reduceCtorEq, SPx, nats_length, hl, co26, sr26, P26.iff]
               refine hK _ _ ?_
               clear hK K)
          )
          refine end_ret hd (by simp (maxSteps := 2000000) (disch := omega) only [Tryd.results9, resVars, resVar, SA, ofValue, ofCell, bin, intBin, un, idx, Go.Ev.builtin, calleeOf, V.isNilS, V.depthOk, depth1, V.ok1, V.isAgg, V.cells, isConst, Nat.reduceBEq, Nat.reduceEqDiff, ↓reduceIte, Nat.reduceLeDiff, Nat.reduceAdd, Nat.reduceMul, Nat.reduceSub, Nat.reduceLT, Int.reduceAdd, Int.reduceSub, Int.reduceMul, Int.reduceLT, Int.reduceLE, Int.reduceToNat, Int.reduceNeg, reduceIte, reduceCtorEq, SPx]; rfl) ?_
          simp (maxSteps := 2000000) (disch := omega) only [SA, ofValue, ofCell, bin, intBin, un, idx, Go.Ev.builtin, calleeOf, V.isNilS, V.depthOk, depth1, V.ok1, V.isAgg, V.cells, isConst, Nat.reduceBEq, Nat.reduceEqDiff, ↓reduceIte, Nat.reduceLeDiff, Nat.reduceAdd, Nat.reduceMul, Nat.reduceSub, Nat.reduceLT, Int.reduceAdd, Int.reduceSub, Int.reduceMul, Int.reduceLT, Int.reduceLE, Int.reduceToNat, Int.reduceNeg, reduceIte, reduceCtorEq, true_and, and_true, Nat.zero_add, Nat.le_refl, if_true, ↓reduceIte, resOf, X_own, mv_int, mv_bool, mv_str, mv_sl, mv_nilS, mv_tup, mv2s_nil, mv2s_cons, mv2_int, mv2_bool, mv2_str, mv2_sl, mv2_nilS, Option.map_some, vi, vn, SPx]
        · simp at h
    · have e1 : ((N : Nat) : Int) > 0 := by omega
      have e2 : ¬ ((N : Nat) : Int) < ((N : Nat) : Int) := by omega
      repeat (first
        | with_reducible first | refine W_seq ?_ | refine W_skip ?_ | refine W_label ?_ | refine W_ret ?_ | refine W_exit ?_ | refine W_block ?_ | refine thenI ?_ | refine thenRet ?_ | refine thenExit ?_ | refine blockRet ?_ | refine blockI ?_ | refine blockExit ?_ | refine blockExitNe rfl ?_
        | (with_reducible refine W_region_k ?_
           intro K hK
           simp (maxSteps := 2000000) (disch := omega) only [SA, ofValue, ofCell, bin, intBin, un, idx, Go.Ev.builtin, calleeOf, V.isNilS, V.depthOk, depth1, V.ok1, V.isAgg, V.cells, isConst, Nat.reduceBEq, Nat.reduceEqDiff, ↓reduceIte, Nat.reduceLeDiff, Nat.reduceAdd, Nat.reduceMul, Nat.reduceSub, Nat.reduceLT, Int.reduceAdd, Int.reduceSub, Int.reduceMul, Int.reduceLT, Int.reduceLE, Int.reduceToNat, Int.reduceNeg, reduceIte, reduceCtorEq, SPx, h0, h7, e1, e2]
           refine hK _ _ ?_
           clear hK K)
      )
      with_reducible refine W_cond2 (by simp only [SO, ofValue, ofCell, Nat.reduceBEq, Nat.reduceEqDiff, ↓reduceIte]; rfl) (fun h => ?_) (fun h => ?_)
      · simp at h
      clear h
      repeat (first
        | with_reducible first | refine W_seq ?_ | refine W_skip ?_ | refine W_label ?_ | refine W_ret ?_ | refine W_exit ?_ | refine W_block ?_ | refine thenI ?_ | refine thenRet ?_ | refine thenExit ?_ | refine blockRet ?_ | refine blockI ?_ | refine blockExit ?_ | refine blockExitNe rfl ?_
        | (with_reducible refine W_region_k ?_
           intro K hK
           simp (maxSteps := 2000000) (disch := omega) only [SA, ofValue, ofCell, bin, intBin, un, idx, Go.Ev.builtin, calleeOf, V.isNilS, V.depthOk, depth1, V.ok1, V.isAgg, V.cells, isConst, Nat.reduceBEq, Nat.reduceEqDiff, ↓reduceIte, Nat.reduceLeDiff, Nat.reduceAdd, Nat.reduceMul, Nat.reduceSub, Nat.reduceLT, Int.reduceAdd, Int.reduceSub, Int.reduceMul, Int.reduceLT, Int.reduceLE, Int.reduceToNat, Int.reduceNeg, reduceIte, reduceCtorEq, SPx, h0, h1, h7, bne_self_eq_false]
           refine hK _ _ ?_
           clear hK K)
      )
      with_reducible refine W_cond2 (by simp only [SO, ofValue, ofCell, Nat.reduceBEq, Nat.reduceEqDiff, ↓reduceIte]; rfl) (fun h => ?_) (fun h => ?_)
      · simp at h
      clear h
      by_cases cb : numL b.reverse ≤ 1099511627776
      · have q43 := Q43 b16 cb
        have q36 := Q36 cb
        rw [vb.digB] at q36
        have q29 := Q29 b b 0 (Nat.lt_of_le_of_lt b16.len (by decide))
        rw [decide_eq_true ⟨rfl, rfl⟩] at q29
        clear cb b16 vb
        repeat (first
          | with_reducible first | refine W_seq ?_ | refine W_skip ?_ | refine W_label ?_ | refine W_ret ?_ | refine W_exit ?_ | refine W_block ?_ | refine thenI ?_ | refine thenRet ?_ | refine thenExit ?_ | refine blockRet ?_ | refine blockI ?_ | refine blockExit ?_ | refine blockExitNe rfl ?_
          | (with_reducible refine W_region_k ?_
             intro K hK
             simp (maxSteps := 2000000) (disch := omega) only [SA, ofValue, ofCell, bin, intBin, un, idx, Go.Ev.builtin, calleeOf, V.isNilS, V.depthOk, depth1, V.ok1, V.isAgg, V.cells, isConst, Nat.reduceBEq, Nat.reduceEqDiff, ↓reduceIte, Nat.reduceLeDiff, Nat.reduceAdd, Nat.reduceMul, Nat.reduceSub, Nat.reduceLT, Int.reduceAdd, Int.reduceSub, Int.reduceMul, Int.reduceLT, Int.reduceLE, Int.reduceToNat, Int.reduceNeg, reduceIte, reduceCtorEq, SPx, h1, co27, sr27, q27.iff, co43, sr43, q43.iff]
             refine hK _ _ ?_
             clear hK K)
        )
        with_reducible refine W_cond2 (by simp only [SO, ofValue, ofCell, Nat.reduceBEq, Nat.reduceEqDiff, ↓reduceIte]; rfl) (fun h => ?_) (fun h => ?_)
        · simp at h
        clear h
        repeat (first
          | with_reducible first | refine W_seq ?_ | refine W_skip ?_ | refine W_label ?_ | refine W_ret ?_ | refine W_exit ?_ | refine W_block ?_ | refine thenI ?_ | refine thenRet ?_ | refine thenExit ?_ | refine blockRet ?_ | refine blockI ?_ | refine blockExit ?_ | refine blockExitNe rfl ?_
          | (with_reducible refine W_region_k ?_
             intro K hK
             simp (maxSteps := 2000000) (disch := omega) only [SA, ofValue, ofCell, bin, intBin, un, idx, Go.Ev.builtin, calleeOf, V.isNilS, V.depthOk, depth1, V.ok1, V.isAgg, V.cells, isConst, Nat.reduceBEq, Nat.reduceEqDiff, ↓reduceIte, Nat.reduceLeDiff, Nat.reduceAdd, Nat.reduceMul, Nat.reduceSub, Nat.reduceLT, Int.reduceAdd, Int.reduceSub, Int.reduceMul, Int.reduceLT, Int.reduceLE, Int.reduceToNat, Int.reduceNeg, reduceIte, reduceCtorEq, SPx, co36, sr36, q36.iff, co29, sr29, q29.iff, co26, sr26, P26.iff]
             refine hK _ _ ?_
             clear hK K)
        )
        refine end_ret hd (by simp (maxSteps := 2000000) (disch := omega) only [Tryd.results9, resVars, resVar, SA, ofValue, ofCell, bin, intBin, un, idx, Go.Ev.builtin, calleeOf, V.isNilS, V.depthOk, depth1, V.ok1, V.isAgg, V.cells, isConst, Nat.reduceBEq, Nat.reduceEqDiff, ↓reduceIte, Nat.reduceLeDiff, Nat.reduceAdd, Nat.reduceMul, Nat.reduceSub, Nat.reduceLT, Int.reduceAdd, Int.reduceSub, Int.reduceMul, Int.reduceLT, Int.reduceLE, Int.reduceToNat, Int.reduceNeg, reduceIte, reduceCtorEq, SPx]; rfl) ?_
        simp (maxSteps := 2000000) (disch := omega) only [SA, ofValue, ofCell, bin, intBin, un, idx, Go.Ev.builtin, calleeOf, V.isNilS, V.depthOk, depth1, V.ok1, V.isAgg, V.cells, isConst, Nat.reduceBEq, Nat.reduceEqDiff, ↓reduceIte, Nat.reduceLeDiff, Nat.reduceAdd, Nat.reduceMul, Nat.reduceSub, Nat.reduceLT, Int.reduceAdd, Int.reduceSub, Int.reduceMul, Int.reduceLT, Int.reduceLE, Int.reduceToNat, Int.reduceNeg, reduceIte, reduceCtorEq, true_and, and_true, Nat.zero_add, Nat.le_refl, if_true, ↓reduceIte, resOf, X_own, mv_int, mv_bool, mv_str, mv_sl, mv_nilS, mv_tup, mv2s_nil, mv2s_cons, mv2_int, mv2_bool, mv2_str, mv2_sl, mv2_nilS, Option.map_some, vi, vn, SPx]
      · have q43 := Q43b b16 cb
        have hl : ((b.length : Nat) : Int) > 6 := by
          have h1 : numL b.reverse < 60 ^ b.length := by
            have := Go.Pl.num_lt (l := b.reverse) (fun d hd => vb.lt d (List.mem_reverse.1 hd))
            rwa [List.length_reverse] at this
          rcases Nat.lt_or_ge 6 b.length with h | h
          · omega
          · have : 60 ^ b.length ≤ 60 ^ 6 := Nat.pow_le_pow_right (by decide) h
            exfalso
            have h2 : (60 : Nat) ^ 6 = 46656000000 := by decide
            omega
        clear cb b16 vb
        repeat (first
          | with_reducible first | refine W_seq ?_ | refine W_skip ?_ | refine W_label ?_ | refine W_ret ?_ | refine W_exit ?_ | refine W_block ?_ | refine thenI ?_ | refine thenRet ?_ | refine thenExit ?_ | refine blockRet ?_ | refine blockI ?_ | refine blockExit ?_ | refine blockExitNe rfl ?_
          | (with_reducible refine W_region_k ?_
             intro K hK
             simp (maxSteps := 2000000) (disch := omega) only [SA, ofValue, ofCell, bin, intBin, un, idx, Go.Ev.builtin, calleeOf, V.isNilS, V.depthOk, depth1, V.ok1, V.isAgg, V.cells, isConst, Nat.reduceBEq, Nat.reduceEqDiff, ↓reduceIte, Nat.reduceLeDiff, Nat.reduceAdd, Nat.reduceMul, Nat.reduceSub, Nat.reduceLT, Int.reduceAdd, Int.reduceSub, Int.reduceMul, Int.reduceLT, Int.reduceLE, Int.reduceToNat, Int.reduceNeg, reduceIte, reduceCtorEq, SPx, h1, co27, sr27, q27.iff, co43, sr43, q43.iff]
             refine hK _ _ ?_
             clear hK K)
        )
        with_reducible refine W_cond2 (by simp only [SO, ofValue, ofCell, Nat.reduceBEq, Nat.reduceEqDiff, ↓reduceIte]; rfl) (fun h => ?_) (fun h => ?_)
        · repeat (first
            | with_reducible first | refine W_seq ?_ | refine W_skip ?_ | refine W_label ?_ | refine W_ret ?_ | refine W_exit ?_ | refine W_block ?_ | refine thenI ?_ | refine thenRet ?_ | refine thenExit ?_ | refine blockRet ?_ | refine blockI ?_ | refine blockExit ?_ | refine blockExitNe rfl ?_
            | (with_reducible refine W_region_k ?_
               intro K hK
               simp (maxSteps := 2000000) (disch := omega) only [SA, ofValue, ofCell, bin, intBin, un, idx, Go.Ev.builtin, calleeOf, V.isNilS, V.depthOk, depth1, V.ok1, V.isAgg, V.cells, isConst, Nat.reduceBEq, Nat.reduceEqDiff, ↓reduceIte, Nat.reduceLeDiff, Nat.reduceAdd, Nat.reduceMul, Nat.reduceSub, Nat.reduceLT, Int.reduceAdd, Int.reduceSub, Int.reduceMul, Int.reduceLT, Int.reduceLE, Int.reduceToNat, Int.reduceNeg, reduceIte, reduceCtorEq, SPx, nats_length, hl, co26, sr26, P26.iff]
               refine hK _ _ ?_
               clear hK K)
          )
          refine end_ret hd (by simp (maxSteps := 2000000) (disch := omega) only [Tryd.results9, resVars, resVar, SA, ofValue, ofCell, bin, intBin, un, idx, Go.Ev.builtin, calleeOf, V.isNilS, V.depthOk, depth1, V.ok1, V.isAgg, V.cells, isConst, Nat.reduceBEq, Nat.reduceEqDiff, ↓reduceIte, Nat.reduceLeDiff, Nat.reduceAdd, Nat.reduceMul, Nat.reduceSub, Nat.reduceLT, Int.reduceAdd, Int.reduceSub, Int.reduceMul, Int.reduceLT, Int.reduceLE, Int.reduceToNat, Int.reduceNeg, reduceIte, reduceCtorEq, SPx]; rfl) ?_
          simp (maxSteps := 2000000) (disch := omega) only [SA, ofValue, ofCell, bin, intBin, un, idx, Go.Ev.builtin, calleeOf, V.isNilS, V.depthOk, depth1, V.ok1, V.isAgg, V.cells, isConst, Nat.reduceBEq, Nat.reduceEqDiff, ↓reduceIte, Nat.reduceLeDiff, Nat.reduceAdd, Nat.reduceMul, Nat.reduceSub, Nat.reduceLT, Int.reduceAdd, Int.reduceSub, Int.reduceMul, Int.reduceLT, Int.reduceLE, Int.reduceToNat, Int.reduceNeg, reduceIte, reduceCtorEq, true_and, and_true, Nat.zero_add, Nat.le_refl, if_true, ↓reduceIte, resOf, X_own, mv_int, mv_bool, mv_str, mv_sl, mv_nilS, mv_tup, mv2s_nil, mv2s_cons, mv2_int, mv2_bool, mv2_str, mv2_sl, mv2_nilS, Option.map_some, vi, vn, SPx]
        · simp at h
end Go.Proofs.YtpocekfifokndaaDoor
namespace Go.Ev
theorem typs1 {P : Program} {n : Nat} {a : TypeId} {us : List V} (h : Typs P n [a] us) : ∃ u, us = [u] ∧ Typ P n a u := by
  match us, h with
  | [u], h => exact ⟨u, rfl, h.1⟩
theorem typs2 {P : Program} {n : Nat} {a b : TypeId} {us : List V} (h : Typs P n [a, b] us) : ∃ u v, us = [u, v] ∧ Typ P n a u ∧ Typ P n b v := by
  match us, h with
  | [u, v], h => exact ⟨u, v, rfl, h.1, h.2.1⟩
end Go.Ev
