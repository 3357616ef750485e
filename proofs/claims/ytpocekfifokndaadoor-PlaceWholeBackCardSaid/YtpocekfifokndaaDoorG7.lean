/- Part 7 of the proof: an evaluator of the program, proved sound against the model, and what the functions of the program compute. No condition but those each theorem states. -/
import Derived.Test.YtpocekfifokndaaDoorG1
import Derived.Test.YtpocekfifokndaaDoorG4
import Derived.Test.YtpocekfifokndaaDoorG2
set_option linter.unusedSimpArgs false
set_option linter.unusedVariables false
namespace Go.Proofs.YtpocekfifokndaaDoor
open Go Go.Ev Go.Pl
set_option maxRecDepth 100000
set_option maxHeartbeats 4000000
theorem P135 (l : List Nat) (hl : l.length < 1000000) : Ans X 135 [.sl (nats l)] (.ret (.sl (nats (trimL l)))) := by
  refine call_of_X (fn := Tryd.f135) 1 Tryd.func135 rfl (by decide +kernel) rfl ?_ ?_ ?_ ?_
  · rfl
  · intro h; exact absurd h (by rw [sr135]; decide)
  · intro v hv; injection hv with hv; subst hv; rfl
  intro s hs hd ho
  have hm : s.m = ⟨.nil, []⟩ := by subst hs; rfl
  have h0 : s.t.get 0 = .sl (nats l) := by subst hs; rfl
  clear hs
  repeat (first
    | with_reducible first | refine W_seq ?_ | refine W_skip ?_ | refine W_label ?_ | refine W_ret ?_ | refine W_exit ?_ | refine W_block ?_ | refine thenI ?_ | refine thenRet ?_ | refine thenExit ?_ | refine blockRet ?_ | refine blockI ?_ | refine blockExit ?_ | refine blockExitNe rfl ?_
    | (with_reducible refine W_region_k ?_
       intro K hK
       simp (maxSteps := 2000000) (disch := omega) only [SA, ofValue, ofCell, bin, intBin, un, idx, Go.Ev.builtin, calleeOf, V.isNilS, V.depthOk, depth1, V.ok1, V.isAgg, V.cells, isConst, Nat.reduceBEq, Nat.reduceEqDiff, ↓reduceIte, Nat.reduceLeDiff, Nat.reduceAdd, Nat.reduceMul, Nat.reduceSub, Nat.reduceLT, Int.reduceAdd, Int.reduceSub, Int.reduceMul, Int.reduceLT, Int.reduceLE, Int.reduceToNat, Int.reduceNeg, reduceIte, reduceCtorEq, SPx, h0, hm]
       refine hK _ _ ?_
       clear hK K)
  )
  refine W_loopg (fun (k : Nat) s => s.dfs = [] ∧ s.m.out.length = 0 ∧ s.t.get 0 = .sl (nats (l.take k)) ∧ k ≤ l.length ∧ ∀ i, k ≤ i → i < l.length → l[i]? = some 0) (fun k => k) l.length ?_ ?_
  · refine ⟨hd, ?_, ?_, Nat.le_refl _, fun i h1 h2 => by omega⟩
    all_goals (try simp (maxSteps := 2000000) (disch := omega) only [SO, ofValue, ofCell, Nat.reduceBEq, Nat.reduceEqDiff, ↓reduceIte, and_self, and_true, true_and, Mem.newRef_eq, Mem.gen_nil, Mem.gen_new, Mem.gen_set, Mem.row_new, Mem.row_setW, Mem.new_out, Mem.set_out, List.length_nil, List.length_cons, Nat.zero_le, Nat.le_refl, Nat.reduceLeDiff, Nat.reduceAdd, and_self, and_true, true_and, Nat.zero_add, h0, hm])
    · rw [List.take_length]
  clear hd h0 ho hm
  rintro k s ⟨hd, ho, h0, hk, hz⟩
  have hlen : (l.take k).length = k := by rw [List.length_take]; omega
  rcases Nat.eq_zero_or_pos k with rfl | hp
  · repeat (first
      | with_reducible first | refine W_seq ?_ | refine W_skip ?_ | refine W_label ?_ | refine W_ret ?_ | refine W_exit ?_ | refine W_block ?_ | refine thenI ?_ | refine thenRet ?_ | refine thenExit ?_ | refine blockRet ?_ | refine blockI ?_ | refine blockExit ?_ | refine blockExitNe rfl ?_
      | (with_reducible refine W_region_k ?_
         intro K hK
         simp (maxSteps := 2000000) (disch := omega) only [SA, ofValue, ofCell, bin, intBin, un, idx, Go.Ev.builtin, calleeOf, V.isNilS, V.depthOk, depth1, V.ok1, V.isAgg, V.cells, isConst, Nat.reduceBEq, Nat.reduceEqDiff, ↓reduceIte, Nat.reduceLeDiff, Nat.reduceAdd, Nat.reduceMul, Nat.reduceSub, Nat.reduceLT, Int.reduceAdd, Int.reduceSub, Int.reduceMul, Int.reduceLT, Int.reduceLE, Int.reduceToNat, Int.reduceNeg, reduceIte, reduceCtorEq, SPx, h0, nats_length, hlen, Int.natCast_zero, gt_iff_lt, Int.lt_irrefl]
         refine hK _ _ ?_
         clear hK K)
    )
    with_reducible refine W_cond2 (by simp only [SO, ofValue, ofCell, Nat.reduceBEq, Nat.reduceEqDiff, ↓reduceIte]; rfl) (fun h => ?_) (fun h => ?_)
    · simp at h
    · repeat (first
        | with_reducible first | refine W_seq ?_ | refine W_skip ?_ | refine W_label ?_ | refine W_ret ?_ | refine W_exit ?_ | refine W_block ?_ | refine thenI ?_ | refine thenRet ?_ | refine thenExit ?_ | refine blockRet ?_ | refine blockI ?_ | refine blockExit ?_ | refine blockExitNe rfl ?_
        | (with_reducible refine W_region_k ?_
           intro K hK
           simp (maxSteps := 2000000) (disch := omega) only [SA, ofValue, ofCell, bin, intBin, un, idx, Go.Ev.builtin, calleeOf, V.isNilS, V.depthOk, depth1, V.ok1, V.isAgg, V.cells, isConst, Nat.reduceBEq, Nat.reduceEqDiff, ↓reduceIte, Nat.reduceLeDiff, Nat.reduceAdd, Nat.reduceMul, Nat.reduceSub, Nat.reduceLT, Int.reduceAdd, Int.reduceSub, Int.reduceMul, Int.reduceLT, Int.reduceLE, Int.reduceToNat, Int.reduceNeg, reduceIte, reduceCtorEq, SPx, h0]
           refine hK _ _ ?_
           clear hK K)
      )
      refine end_ret hd (by simp (maxSteps := 2000000) (disch := omega) only [Tryd.results135, resVars, resVar, SA, ofValue, ofCell, bin, intBin, un, idx, Go.Ev.builtin, calleeOf, V.isNilS, V.depthOk, depth1, V.ok1, V.isAgg, V.cells, isConst, Nat.reduceBEq, Nat.reduceEqDiff, ↓reduceIte, Nat.reduceLeDiff, Nat.reduceAdd, Nat.reduceMul, Nat.reduceSub, Nat.reduceLT, Int.reduceAdd, Int.reduceSub, Int.reduceMul, Int.reduceLT, Int.reduceLE, Int.reduceToNat, Int.reduceNeg, reduceIte, reduceCtorEq, SPx, h0]; rfl) ?_
      simp (maxSteps := 2000000) (disch := omega) only [SA, ofValue, ofCell, bin, intBin, un, idx, Go.Ev.builtin, calleeOf, V.isNilS, V.depthOk, depth1, V.ok1, V.isAgg, V.cells, isConst, Nat.reduceBEq, Nat.reduceEqDiff, ↓reduceIte, Nat.reduceLeDiff, Nat.reduceAdd, Nat.reduceMul, Nat.reduceSub, Nat.reduceLT, Int.reduceAdd, Int.reduceSub, Int.reduceMul, Int.reduceLT, Int.reduceLE, Int.reduceToNat, Int.reduceNeg, reduceIte, reduceCtorEq, true_and, and_true, Nat.zero_add, Nat.le_refl, if_true, ↓reduceIte, resOf, X_own, mv_int, mv_bool, mv_str, mv_sl, mv_nilS, mv_tup, mv2s_nil, mv2s_cons, mv2_int, mv2_bool, mv2_str, mv2_sl, mv2_nilS, Option.map_some, vi, vn, SPx, h0]
      rw [trimL_take (n := 0) (by omega) hz (by omega)]
  obtain ⟨d, hdk⟩ : ∃ d, l[k - 1]? = some d := ⟨l[k - 1]'(by omega), by simp⟩
  have hdk' : (l.take k)[k - 1]? = some d := by rw [List.getElem?_take, if_pos (by omega), hdk]
  have hp' : (0 : Int) < k := by omega
  have hc : (k : Int) - 1 = ((k - 1 : Nat) : Int) := by omega
  rcases Nat.eq_zero_or_pos d with rfl | hd0
  · repeat (first
      | with_reducible first | refine W_seq ?_ | refine W_skip ?_ | refine W_label ?_ | refine W_ret ?_ | refine W_exit ?_ | refine W_block ?_ | refine thenI ?_ | refine thenRet ?_ | refine thenExit ?_ | refine blockRet ?_ | refine blockI ?_ | refine blockExit ?_ | refine blockExitNe rfl ?_
      | (with_reducible refine W_region_k ?_
         intro K hK
         simp (maxSteps := 2000000) (disch := omega) only [SA, ofValue, ofCell, bin, intBin, un, idx, Go.Ev.builtin, calleeOf, V.isNilS, V.depthOk, depth1, V.ok1, V.isAgg, V.cells, isConst, Nat.reduceBEq, Nat.reduceEqDiff, ↓reduceIte, Nat.reduceLeDiff, Nat.reduceAdd, Nat.reduceMul, Nat.reduceSub, Nat.reduceLT, Int.reduceAdd, Int.reduceSub, Int.reduceMul, Int.reduceLT, Int.reduceLE, Int.reduceToNat, Int.reduceNeg, reduceIte, reduceCtorEq, SPx, SCx, Int.reduceEq, h0, nats_length, nats_get?, hlen, gt_iff_lt, hp', hc, hdk', Int.natCast_zero]
         refine hK _ _ ?_
         clear hK K)
    )
    with_reducible refine W_cond2 (by simp only [SO, ofValue, ofCell, Nat.reduceBEq, Nat.reduceEqDiff, ↓reduceIte]; rfl) (fun h => ?_) (fun h => ?_)
    · repeat (first
        | with_reducible first | refine W_seq ?_ | refine W_skip ?_ | refine W_label ?_ | refine W_ret ?_ | refine W_exit ?_ | refine W_block ?_ | refine thenI ?_ | refine thenRet ?_ | refine thenExit ?_ | refine blockRet ?_ | refine blockI ?_ | refine blockExit ?_ | refine blockExitNe rfl ?_
        | (with_reducible refine W_region_k ?_
           intro K hK
           simp (maxSteps := 2000000) (disch := omega) only [SA, ofValue, ofCell, bin, intBin, un, idx, Go.Ev.builtin, calleeOf, V.isNilS, V.depthOk, depth1, V.ok1, V.isAgg, V.cells, isConst, Nat.reduceBEq, Nat.reduceEqDiff, ↓reduceIte, Nat.reduceLeDiff, Nat.reduceAdd, Nat.reduceMul, Nat.reduceSub, Nat.reduceLT, Int.reduceAdd, Int.reduceSub, Int.reduceMul, Int.reduceLT, Int.reduceLE, Int.reduceToNat, Int.reduceNeg, reduceIte, reduceCtorEq, SPx, SCx, Int.reduceEq, SSx, appendTo, elemsOf, h0, nats_length, hlen, hc, hdk', cut_nats_take, List.take_take]
           refine hK _ _ ?_
           clear hK K)
      )
      refine ⟨k - 1, ⟨hd, ?_, ?_, by omega, ?_⟩, by omega⟩
      all_goals (try simp (maxSteps := 2000000) (disch := omega) only [SO, ofValue, ofCell, Nat.reduceBEq, Nat.reduceEqDiff, ↓reduceIte, and_self, and_true, true_and, Mem.newRef_eq, Mem.gen_nil, Mem.gen_new, Mem.gen_set, Mem.row_new, Mem.row_setW, Mem.new_out, Mem.set_out, List.length_nil, List.length_cons, Nat.zero_le, Nat.le_refl, Nat.reduceLeDiff, Nat.reduceAdd, and_self, and_true, true_and, Nat.zero_add, ho])
      · rw [Nat.min_eq_left (by omega)]; simp
      · intro i h1 h2
        by_cases e : i = k - 1
        · subst e; exact hdk
        · exact hz i (by omega) h2
    · simp at h
  · have hne : ¬ ((d : Int) = 0) := by omega
    repeat (first
      | with_reducible first | refine W_seq ?_ | refine W_skip ?_ | refine W_label ?_ | refine W_ret ?_ | refine W_exit ?_ | refine W_block ?_ | refine thenI ?_ | refine thenRet ?_ | refine thenExit ?_ | refine blockRet ?_ | refine blockI ?_ | refine blockExit ?_ | refine blockExitNe rfl ?_
      | (with_reducible refine W_region_k ?_
         intro K hK
         simp (maxSteps := 2000000) (disch := omega) only [SA, ofValue, ofCell, bin, intBin, un, idx, Go.Ev.builtin, calleeOf, V.isNilS, V.depthOk, depth1, V.ok1, V.isAgg, V.cells, isConst, Nat.reduceBEq, Nat.reduceEqDiff, ↓reduceIte, Nat.reduceLeDiff, Nat.reduceAdd, Nat.reduceMul, Nat.reduceSub, Nat.reduceLT, Int.reduceAdd, Int.reduceSub, Int.reduceMul, Int.reduceLT, Int.reduceLE, Int.reduceToNat, Int.reduceNeg, reduceIte, reduceCtorEq, SPx, SCx, Int.reduceEq, h0, nats_length, nats_get?, hlen, gt_iff_lt, hp', hc, hdk', beq_eq_false_iff_ne.2 hne]
         refine hK _ _ ?_
         clear hK K)
    )
    with_reducible refine W_cond2 (by simp only [SO, ofValue, ofCell, Nat.reduceBEq, Nat.reduceEqDiff, ↓reduceIte]; rfl) (fun h => ?_) (fun h => ?_)
    · simp at h
    · repeat (first
        | with_reducible first | refine W_seq ?_ | refine W_skip ?_ | refine W_label ?_ | refine W_ret ?_ | refine W_exit ?_ | refine W_block ?_ | refine thenI ?_ | refine thenRet ?_ | refine thenExit ?_ | refine blockRet ?_ | refine blockI ?_ | refine blockExit ?_ | refine blockExitNe rfl ?_
        | (with_reducible refine W_region_k ?_
           intro K hK
           simp (maxSteps := 2000000) (disch := omega) only [SA, ofValue, ofCell, bin, intBin, un, idx, Go.Ev.builtin, calleeOf, V.isNilS, V.depthOk, depth1, V.ok1, V.isAgg, V.cells, isConst, Nat.reduceBEq, Nat.reduceEqDiff, ↓reduceIte, Nat.reduceLeDiff, Nat.reduceAdd, Nat.reduceMul, Nat.reduceSub, Nat.reduceLT, Int.reduceAdd, Int.reduceSub, Int.reduceMul, Int.reduceLT, Int.reduceLE, Int.reduceToNat, Int.reduceNeg, reduceIte, reduceCtorEq, SPx, h0]
           refine hK _ _ ?_
           clear hK K)
      )
      refine end_ret hd (by simp (maxSteps := 2000000) (disch := omega) only [Tryd.results135, resVars, resVar, SA, ofValue, ofCell, bin, intBin, un, idx, Go.Ev.builtin, calleeOf, V.isNilS, V.depthOk, depth1, V.ok1, V.isAgg, V.cells, isConst, Nat.reduceBEq, Nat.reduceEqDiff, ↓reduceIte, Nat.reduceLeDiff, Nat.reduceAdd, Nat.reduceMul, Nat.reduceSub, Nat.reduceLT, Int.reduceAdd, Int.reduceSub, Int.reduceMul, Int.reduceLT, Int.reduceLE, Int.reduceToNat, Int.reduceNeg, reduceIte, reduceCtorEq, SPx, h0]; rfl) ?_
      simp (maxSteps := 2000000) (disch := omega) only [SA, ofValue, ofCell, bin, intBin, un, idx, Go.Ev.builtin, calleeOf, V.isNilS, V.depthOk, depth1, V.ok1, V.isAgg, V.cells, isConst, Nat.reduceBEq, Nat.reduceEqDiff, ↓reduceIte, Nat.reduceLeDiff, Nat.reduceAdd, Nat.reduceMul, Nat.reduceSub, Nat.reduceLT, Int.reduceAdd, Int.reduceSub, Int.reduceMul, Int.reduceLT, Int.reduceLE, Int.reduceToNat, Int.reduceNeg, reduceIte, reduceCtorEq, true_and, and_true, Nat.zero_add, Nat.le_refl, if_true, ↓reduceIte, resOf, X_own, mv_int, mv_bool, mv_str, mv_sl, mv_nilS, mv_tup, mv2s_nil, mv2s_cons, mv2_int, mv2_bool, mv2_str, mv2_sl, mv2_nilS, Option.map_some, vi, vn, SPx, h0]
      rw [trimL_take hk hz (fun _ => by rw [hdk]; intro e; injection e; omega)]
end Go.Proofs.YtpocekfifokndaaDoor
namespace Go.Proofs.YtpocekfifokndaaDoor
open Go Go.Ev Go.Pl
set_option maxRecDepth 100000
set_option maxHeartbeats 4000000
def bringI (n m : Int) : Int := if m < 1 then 0 else n % m
theorem wrb {a : Int} (h1 : -9223372036854775808 ≤ a) (h2 : a ≤ 9223372036854775807) : V.int .i64 (wr .i64 a) = vi a := by rw [wr_i64 h1 h2]
theorem tmod_emod (n m : Int) (hm : 0 < m) : (n.tmod m < 0 → n.tmod m + m = n % m) ∧ (¬ n.tmod m < 0 → n.tmod m = n % m) := by
  have h1 := Int.emod_nonneg n (by omega : m ≠ 0)
  have h2 := Int.emod_lt_of_pos n hm
  rcases Int.lt_or_le n 0 with hn | hn
  · have h3 : n.tmod m = - ((-n) % m) := by
      rw [← Int.neg_neg n, Int.neg_tmod, Int.neg_neg]
      congr 1
      exact Int.tmod_eq_emod_of_nonneg (by omega)
    have h4 := Int.emod_nonneg (-n) (by omega : m ≠ 0)
    have h5 := Int.emod_lt_of_pos (-n) hm
    have e1 := Int.mul_ediv_add_emod n m
    have e2 := Int.mul_ediv_add_emod (-n) m
    rw [h3]
    refine ⟨fun h => ?_, fun h => ?_⟩
    · have key : n % m = m - (-n) % m := by
        rw [← Int.emod_eq_of_lt (a := m - (-n) % m) (b := m) (by omega) (by omega)]
        have e : m - (-n) % m = n + m * (1 + (-n) / m) := by rw [Int.mul_add, Int.mul_one]; omega
        rw [e, Int.add_mul_emod_self_left]
      omega
    · have hz : (-n) % m = 0 := by omega
      have : n % m = 0 := by
        have e : n = 0 + m * (-((-n) / m)) := by rw [Int.mul_neg]; omega
        rw [e, Int.add_mul_emod_self_left]; rfl
      omega
  · have h3 := Int.tmod_eq_emod_of_nonneg (a := n) (b := m) hn
    omega
theorem P33 (n m : Int) (hm : m < 1000000000000000000) : Ans X 33 [vi n, vi m] (.ret (vi (bringI n m))) := by
  refine call_of_X (fn := Tryd.f33) 2 Tryd.func33 rfl (by decide +kernel) rfl ?_ ?_ ?_ ?_
  · rfl
  · exact fun _ => rfl
  · intro v hv; injection hv with hv; subst hv; rfl
  intro s hs hd ho
  have h0 : s.t.get 0 = vi n := by subst hs; rfl
  have h1 : s.t.get 1 = vi m := by subst hs; rfl
  clear hs
  repeat (first
    | with_reducible first | refine W_seq ?_ | refine W_skip ?_ | refine W_label ?_ | refine W_ret ?_ | refine W_exit ?_ | refine W_block ?_ | refine thenI ?_ | refine thenRet ?_ | refine thenExit ?_ | refine blockRet ?_ | refine blockI ?_ | refine blockExit ?_ | refine blockExitNe rfl ?_
    | (with_reducible refine W_region_k ?_
       intro K hK
       simp (maxSteps := 2000000) (disch := omega) only [SA, ofValue, ofCell, bin, intBin, un, idx, Go.Ev.builtin, calleeOf, V.isNilS, V.depthOk, depth1, V.ok1, V.isAgg, V.cells, isConst, Nat.reduceBEq, Nat.reduceEqDiff, ↓reduceIte, Nat.reduceLeDiff, Nat.reduceAdd, Nat.reduceMul, Nat.reduceSub, Nat.reduceLT, Int.reduceAdd, Int.reduceSub, Int.reduceMul, Int.reduceLT, Int.reduceLE, Int.reduceToNat, Int.reduceNeg, reduceIte, reduceCtorEq, SPx, h0, h1]
       refine hK _ _ ?_
       clear hK K)
  )
  with_reducible refine W_cond2 (by simp only [SO, ofValue, ofCell, Nat.reduceBEq, Nat.reduceEqDiff, ↓reduceIte]; rfl) (fun h => ?_) (fun h => ?_)
  · have h := of_decide_eq_true h
    repeat (first
      | with_reducible first | refine W_seq ?_ | refine W_skip ?_ | refine W_label ?_ | refine W_ret ?_ | refine W_exit ?_ | refine W_block ?_ | refine thenI ?_ | refine thenRet ?_ | refine thenExit ?_ | refine blockRet ?_ | refine blockI ?_ | refine blockExit ?_ | refine blockExitNe rfl ?_
      | (with_reducible refine W_region_k ?_
         intro K hK
         simp (maxSteps := 2000000) (disch := omega) only [SA, ofValue, ofCell, bin, intBin, un, idx, Go.Ev.builtin, calleeOf, V.isNilS, V.depthOk, depth1, V.ok1, V.isAgg, V.cells, isConst, Nat.reduceBEq, Nat.reduceEqDiff, ↓reduceIte, Nat.reduceLeDiff, Nat.reduceAdd, Nat.reduceMul, Nat.reduceSub, Nat.reduceLT, Int.reduceAdd, Int.reduceSub, Int.reduceMul, Int.reduceLT, Int.reduceLE, Int.reduceToNat, Int.reduceNeg, reduceIte, reduceCtorEq, SPx]
         refine hK _ _ ?_
         clear hK K)
    )
    refine end_ret hd (by simp (maxSteps := 2000000) (disch := omega) only [Tryd.results33, resVars, resVar, SA, ofValue, ofCell, bin, intBin, un, idx, Go.Ev.builtin, calleeOf, V.isNilS, V.depthOk, depth1, V.ok1, V.isAgg, V.cells, isConst, Nat.reduceBEq, Nat.reduceEqDiff, ↓reduceIte, Nat.reduceLeDiff, Nat.reduceAdd, Nat.reduceMul, Nat.reduceSub, Nat.reduceLT, Int.reduceAdd, Int.reduceSub, Int.reduceMul, Int.reduceLT, Int.reduceLE, Int.reduceToNat, Int.reduceNeg, reduceIte, reduceCtorEq, SPx]; rfl) ?_
    simp (maxSteps := 2000000) (disch := omega) only [SA, ofValue, ofCell, bin, intBin, un, idx, Go.Ev.builtin, calleeOf, V.isNilS, V.depthOk, depth1, V.ok1, V.isAgg, V.cells, isConst, Nat.reduceBEq, Nat.reduceEqDiff, ↓reduceIte, Nat.reduceLeDiff, Nat.reduceAdd, Nat.reduceMul, Nat.reduceSub, Nat.reduceLT, Int.reduceAdd, Int.reduceSub, Int.reduceMul, Int.reduceLT, Int.reduceLE, Int.reduceToNat, Int.reduceNeg, reduceIte, reduceCtorEq, true_and, and_true, Nat.zero_add, Nat.le_refl, if_true, ↓reduceIte, resOf, X_own, mv_int, mv_bool, mv_str, mv_sl, mv_nilS, mv_tup, mv2s_nil, mv2s_cons, mv2_int, mv2_bool, mv2_str, mv2_sl, mv2_nilS, Option.map_some, vi, vn, SPx]
    rw [bringI, if_pos h]
  have h := of_decide_eq_false h
  have hm0 : ¬ m = 0 := by omega
  obtain ⟨k1, k2⟩ := tmod_emod n m (by omega)
  have h2 := Int.emod_lt_of_pos n (by omega : 0 < m)
  have h3 := Int.emod_nonneg n (by omega : m ≠ 0)
  rw [bringI, if_neg h]
  generalize n % m = r at k1 k2 h2 h3 ⊢
  generalize ht : n.tmod m = t at k1 k2
  have htv : V.int .i64 (n.tmod m) = vi t := by rw [ht]
  clear ht
  repeat (first
    | with_reducible first | refine W_seq ?_ | refine W_skip ?_ | refine W_label ?_ | refine W_ret ?_ | refine W_exit ?_ | refine W_block ?_ | refine thenI ?_ | refine thenRet ?_ | refine thenExit ?_ | refine blockRet ?_ | refine blockI ?_ | refine blockExit ?_ | refine blockExitNe rfl ?_
    | (with_reducible refine W_region_k ?_
       intro K hK
       simp (maxSteps := 2000000) (disch := omega) only [SA, ofValue, ofCell, bin, intBin, un, idx, Go.Ev.builtin, calleeOf, V.isNilS, V.depthOk, depth1, V.ok1, V.isAgg, V.cells, isConst, Nat.reduceBEq, Nat.reduceEqDiff, ↓reduceIte, Nat.reduceLeDiff, Nat.reduceAdd, Nat.reduceMul, Nat.reduceSub, Nat.reduceLT, Int.reduceAdd, Int.reduceSub, Int.reduceMul, Int.reduceLT, Int.reduceLE, Int.reduceToNat, Int.reduceNeg, reduceIte, reduceCtorEq, SPx, h0, h1, hm0, htv]
       refine hK _ _ ?_
       clear hK K)
  )
  with_reducible refine W_cond2 (by simp only [SO, ofValue, ofCell, Nat.reduceBEq, Nat.reduceEqDiff, ↓reduceIte]; rfl) (fun h => ?_) (fun h => ?_)
  · have h := of_decide_eq_true h
    have e := k1 h
    have e2 : V.int .i64 (wr .i64 (t + m)) = vi r := by rw [wr_i64 (by omega) (by omega), e]
    clear k1 k2 e
    repeat (first
      | with_reducible first | refine W_seq ?_ | refine W_skip ?_ | refine W_label ?_ | refine W_ret ?_ | refine W_exit ?_ | refine W_block ?_ | refine thenI ?_ | refine thenRet ?_ | refine thenExit ?_ | refine blockRet ?_ | refine blockI ?_ | refine blockExit ?_ | refine blockExitNe rfl ?_
      | (with_reducible refine W_region_k ?_
         intro K hK
         simp (maxSteps := 2000000) (disch := omega) only [SA, ofValue, ofCell, bin, intBin, un, idx, Go.Ev.builtin, calleeOf, V.isNilS, V.depthOk, depth1, V.ok1, V.isAgg, V.cells, isConst, Nat.reduceBEq, Nat.reduceEqDiff, ↓reduceIte, Nat.reduceLeDiff, Nat.reduceAdd, Nat.reduceMul, Nat.reduceSub, Nat.reduceLT, Int.reduceAdd, Int.reduceSub, Int.reduceMul, Int.reduceLT, Int.reduceLE, Int.reduceToNat, Int.reduceNeg, reduceIte, reduceCtorEq, SPx, h1, e2]
         refine hK _ _ ?_
         clear hK K)
    )
    refine end_ret hd (by simp (maxSteps := 2000000) (disch := omega) only [Tryd.results33, resVars, resVar, SA, ofValue, ofCell, bin, intBin, un, idx, Go.Ev.builtin, calleeOf, V.isNilS, V.depthOk, depth1, V.ok1, V.isAgg, V.cells, isConst, Nat.reduceBEq, Nat.reduceEqDiff, ↓reduceIte, Nat.reduceLeDiff, Nat.reduceAdd, Nat.reduceMul, Nat.reduceSub, Nat.reduceLT, Int.reduceAdd, Int.reduceSub, Int.reduceMul, Int.reduceLT, Int.reduceLE, Int.reduceToNat, Int.reduceNeg, reduceIte, reduceCtorEq, SPx]; rfl) ?_
    simp (maxSteps := 2000000) (disch := omega) only [SA, ofValue, ofCell, bin, intBin, un, idx, Go.Ev.builtin, calleeOf, V.isNilS, V.depthOk, depth1, V.ok1, V.isAgg, V.cells, isConst, Nat.reduceBEq, Nat.reduceEqDiff, ↓reduceIte, Nat.reduceLeDiff, Nat.reduceAdd, Nat.reduceMul, Nat.reduceSub, Nat.reduceLT, Int.reduceAdd, Int.reduceSub, Int.reduceMul, Int.reduceLT, Int.reduceLE, Int.reduceToNat, Int.reduceNeg, reduceIte, reduceCtorEq, true_and, and_true, Nat.zero_add, Nat.le_refl, if_true, ↓reduceIte, resOf, X_own, mv_int, mv_bool, mv_str, mv_sl, mv_nilS, mv_tup, mv2s_nil, mv2s_cons, mv2_int, mv2_bool, mv2_str, mv2_sl, mv2_nilS, Option.map_some, vi, vn, SPx]
  · have h := of_decide_eq_false h
    rw [← k2 h]
    repeat (first
      | with_reducible first | refine W_seq ?_ | refine W_skip ?_ | refine W_label ?_ | refine W_ret ?_ | refine W_exit ?_ | refine W_block ?_ | refine thenI ?_ | refine thenRet ?_ | refine thenExit ?_ | refine blockRet ?_ | refine blockI ?_ | refine blockExit ?_ | refine blockExitNe rfl ?_
      | (with_reducible refine W_region_k ?_
         intro K hK
         simp (maxSteps := 2000000) (disch := omega) only [SA, ofValue, ofCell, bin, intBin, un, idx, Go.Ev.builtin, calleeOf, V.isNilS, V.depthOk, depth1, V.ok1, V.isAgg, V.cells, isConst, Nat.reduceBEq, Nat.reduceEqDiff, ↓reduceIte, Nat.reduceLeDiff, Nat.reduceAdd, Nat.reduceMul, Nat.reduceSub, Nat.reduceLT, Int.reduceAdd, Int.reduceSub, Int.reduceMul, Int.reduceLT, Int.reduceLE, Int.reduceToNat, Int.reduceNeg, reduceIte, reduceCtorEq, SPx]
         refine hK _ _ ?_
         clear hK K)
    )
    refine end_ret hd (by simp (maxSteps := 2000000) (disch := omega) only [Tryd.results33, resVars, resVar, SA, ofValue, ofCell, bin, intBin, un, idx, Go.Ev.builtin, calleeOf, V.isNilS, V.depthOk, depth1, V.ok1, V.isAgg, V.cells, isConst, Nat.reduceBEq, Nat.reduceEqDiff, ↓reduceIte, Nat.reduceLeDiff, Nat.reduceAdd, Nat.reduceMul, Nat.reduceSub, Nat.reduceLT, Int.reduceAdd, Int.reduceSub, Int.reduceMul, Int.reduceLT, Int.reduceLE, Int.reduceToNat, Int.reduceNeg, reduceIte, reduceCtorEq, SPx]; rfl) ?_
    simp (maxSteps := 2000000) (disch := omega) only [SA, ofValue, ofCell, bin, intBin, un, idx, Go.Ev.builtin, calleeOf, V.isNilS, V.depthOk, depth1, V.ok1, V.isAgg, V.cells, isConst, Nat.reduceBEq, Nat.reduceEqDiff, ↓reduceIte, Nat.reduceLeDiff, Nat.reduceAdd, Nat.reduceMul, Nat.reduceSub, Nat.reduceLT, Int.reduceAdd, Int.reduceSub, Int.reduceMul, Int.reduceLT, Int.reduceLE, Int.reduceToNat, Int.reduceNeg, reduceIte, reduceCtorEq, true_and, and_true, Nat.zero_add, Nat.le_refl, if_true, ↓reduceIte, resOf, X_own, mv_int, mv_bool, mv_str, mv_sl, mv_nilS, mv_tup, mv2s_nil, mv2s_cons, mv2_int, mv2_bool, mv2_str, mv2_sl, mv2_nilS, Option.map_some, vi, vn, SPx]
def bN (n : Int) : Nat := (bringI n 60).toNat
theorem bN_lt (n : Int) : bN n < 60 := by
  unfold bN bringI
  rw [if_neg (by decide)]
  have := Int.emod_lt_of_pos n (by decide : (0 : Int) < 60)
  omega
theorem bN_vi (n : Int) : vi (bringI n 60) = vn (bN n) := by
  unfold bN
  have : 0 ≤ bringI n 60 := by unfold bringI; rw [if_neg (by decide)]; exact Int.emod_nonneg n (by decide)
  congr 1; omega
def madeS (raw : List Int) (k : Nat) : List Nat := trimL (((raw.take k).map bN).dropWhile (· == 0))
theorem dropWhile_at {L : List Nat} : ∀ {j : Nat}, j ≤ L.length → (∀ i, i < j → L[i]? = some 0) → (j < L.length → L[j]? ≠ some 0) → L.dropWhile (· == 0) = L.drop j := by
  induction L with
  | nil => intro j _ _ _; simp
  | cons a L ih =>
    intro j hj h1 h2
    cases j with
    | zero =>
      have := h2 (by simp)
      simp only [List.getElem?_cons_zero, ne_eq, Option.some.injEq] at this
      rw [List.dropWhile_cons_of_neg (by simpa using this)]; rfl
    | succ j =>
      have h0 := h1 0 (by omega)
      simp only [List.getElem?_cons_zero, Option.some.injEq] at h0
      rw [List.dropWhile_cons_of_pos (by simpa using h0), List.drop_succ_cons]
      exact ih (by simpa using hj) (fun i hi => by have := h1 (i + 1) (by omega); simpa using this) (fun hl => by have := h2 (by simpa using hl); simpa using this)
theorem P27 (raw : List Int) (k : Nat) (hr : raw.length < 9223372036854775808) (hk : k < 1000000) : Ans X 27 [.sl (ints raw), vn k] (.ret (.sl (nats (madeS raw k)))) := by
  refine call_of_X (fn := Tryd.f27) 2 Tryd.func27 rfl (by decide +kernel) rfl ?_ ?_ ?_ ?_
  · rfl
  · intro h; exact absurd h (by rw [sr27]; decide)
  · intro v hv; injection hv with hv; subst hv; rfl
  intro s hs hd ho
  have hm : s.m = ⟨.nil, []⟩ := by subst hs; rfl
  have h0 : s.t.get 0 = .sl (ints raw) := by subst hs; rfl
  have h1 : s.t.get 1 = vn k := by subst hs; rfl
  clear hs
  iterate 10 (first
    | with_reducible first | refine W_seq ?_ | refine W_skip ?_ | refine W_label ?_ | refine W_ret ?_ | refine W_exit ?_ | refine W_block ?_ | refine thenI ?_ | refine thenRet ?_ | refine thenExit ?_ | refine blockRet ?_ | refine blockI ?_ | refine blockExit ?_ | refine blockExitNe rfl ?_
    | (with_reducible refine W_region_k ?_
       intro K hK
       simp (maxSteps := 2000000) (disch := omega) only [SA, ofValue, ofCell, bin, intBin, un, idx, Go.Ev.builtin, calleeOf, V.isNilS, V.depthOk, depth1, V.ok1, V.isAgg, V.cells, isConst, Nat.reduceBEq, Nat.reduceEqDiff, ↓reduceIte, Nat.reduceLeDiff, Nat.reduceAdd, Nat.reduceMul, Nat.reduceSub, Nat.reduceLT, Int.reduceAdd, Int.reduceSub, Int.reduceMul, Int.reduceLT, Int.reduceLE, Int.reduceToNat, Int.reduceNeg, reduceIte, reduceCtorEq, SPx, hm]
       refine hK _ _ ?_
       clear hK K)
  )
  refine W_mid (fun s => s.dfs = [] ∧ s.m.out.length = 0 ∧ Held s.m 5 1 (s.t.get 5) ((raw.take k).map bN)) ?_ ?_
  · repeat (first
      | with_reducible first | refine W_seq ?_ | refine W_skip ?_ | refine W_label ?_ | refine W_ret ?_ | refine W_exit ?_ | refine W_block ?_ | refine thenI ?_ | refine thenRet ?_ | refine thenExit ?_ | refine blockRet ?_ | refine blockI ?_ | refine blockExit ?_ | refine blockExitNe rfl ?_
      | (with_reducible refine W_region_k ?_
         intro K hK
         simp (maxSteps := 2000000) (disch := omega) only [SA, ofValue, ofCell, bin, intBin, un, idx, Go.Ev.builtin, calleeOf, V.isNilS, V.depthOk, depth1, V.ok1, V.isAgg, V.cells, isConst, Nat.reduceBEq, Nat.reduceEqDiff, ↓reduceIte, Nat.reduceLeDiff, Nat.reduceAdd, Nat.reduceMul, Nat.reduceSub, Nat.reduceLT, Int.reduceAdd, Int.reduceSub, Int.reduceMul, Int.reduceLT, Int.reduceLE, Int.reduceToNat, Int.reduceNeg, reduceIte, reduceCtorEq]
         refine hK _ _ ?_
         clear hK K)
    )
    refine W_loopg (fun (i : Nat) s => s.dfs = [] ∧ s.m.out.length = 0 ∧ s.t.get 0 = .sl (ints raw) ∧ s.t.get 1 = vn k ∧ s.t.get 6 = vn i ∧ Held s.m 5 1 (s.t.get 5) ((raw.take i).map bN) ∧ i ≤ raw.length ∧ i ≤ k) (fun i => raw.length - i) 0 ?_ ?_
    · refine ⟨hd, ?_, ?_, ?_, ?_, ⟨1, 0, ?_, ?_, .inr ⟨rfl, rfl⟩⟩, Nat.zero_le _, Nat.zero_le _⟩
      all_goals (try simp (maxSteps := 2000000) (disch := omega) only [SO, ofValue, ofCell, Nat.reduceBEq, Nat.reduceEqDiff, ↓reduceIte, and_self, and_true, true_and, Mem.newRef_eq, Mem.gen_nil, Mem.gen_new, Mem.gen_set, Mem.row_new, Mem.row_setW, Mem.new_out, Mem.set_out, List.length_nil, List.length_cons, Nat.zero_le, Nat.le_refl, Nat.reduceLeDiff, Nat.reduceAdd, and_self, and_true, true_and, Nat.zero_add, h0, h1, hm])
      all_goals rfl
    clear hd h0 h1 ho hm
    rintro i s ⟨hd, ho, h0, h1, h6, ⟨g, ty, h5, r5, hty⟩, hi, hik⟩
    have hlen : ((raw.take i).map bN).length = i := by simp; omega
    rw [hlen] at h5 hty
    by_cases c1 : i < raw.length
    · have c1' : (i : Int) < (raw.length : Int) := by omega
      by_cases c2 : i < k
      · have c2' : (i : Int) < (k : Int) := by omega
        obtain ⟨d, hdk⟩ : ∃ d, raw[i]? = some d := ⟨raw[i], by simp⟩
        have q := P33 d 60 (by decide)
        rw [bN_vi] at q
        have e3 : V.int .i64 (wr .i64 ((i : Int) + 1)) = vn (i + 1) := by rw [wr_i64 (by omega) (by omega)]; rfl
        have hcut : cut (nats ((raw.take i).map bN)) 0 i = nats ((raw.take i).map bN) := by
          conv => lhs; arg 3; rw [← hlen]
          exact cut_nats _
        have hnat : nats ((raw.take i).map bN) ++ [vn (bN d)] = nats ((raw.take (i + 1)).map bN) := by
          rw [nats_snoc, List.take_add_one, hdk, List.map_append]; rfl
        repeat (first
          | with_reducible first | refine W_seq ?_ | refine W_skip ?_ | refine W_label ?_ | refine W_ret ?_ | refine W_exit ?_ | refine W_block ?_ | refine thenI ?_ | refine thenRet ?_ | refine thenExit ?_ | refine blockRet ?_ | refine blockI ?_ | refine blockExit ?_ | refine blockExitNe rfl ?_
          | (with_reducible refine W_region_k ?_
             intro K hK
             simp (maxSteps := 2000000) (disch := omega) only [SA, ofValue, ofCell, bin, intBin, un, idx, Go.Ev.builtin, calleeOf, V.isNilS, V.depthOk, depth1, V.ok1, V.isAgg, V.cells, isConst, Nat.reduceBEq, Nat.reduceEqDiff, ↓reduceIte, Nat.reduceLeDiff, Nat.reduceAdd, Nat.reduceMul, Nat.reduceSub, Nat.reduceLT, Int.reduceAdd, Int.reduceSub, Int.reduceMul, Int.reduceLT, Int.reduceLE, Int.reduceToNat, Int.reduceNeg, reduceIte, reduceCtorEq, SPx, h0, h1, h6, ints_length, c1', c2']
             refine hK _ _ ?_
             clear hK K)
        )
        with_reducible refine W_cond2 (by simp only [SO, ofValue, ofCell, Nat.reduceBEq, Nat.reduceEqDiff, ↓reduceIte]; rfl) (fun h => ?_) (fun h => ?_)
        · repeat (first
            | with_reducible first | refine W_seq ?_ | refine W_skip ?_ | refine W_label ?_ | refine W_ret ?_ | refine W_exit ?_ | refine W_block ?_ | refine thenI ?_ | refine thenRet ?_ | refine thenExit ?_ | refine blockRet ?_ | refine blockI ?_ | refine blockExit ?_ | refine blockExitNe rfl ?_
            | (with_reducible refine W_region_k ?_
               intro K hK
               simp (maxSteps := 2000000) (disch := omega) only [SA, ofValue, ofCell, bin, intBin, un, idx, Go.Ev.builtin, calleeOf, V.isNilS, V.depthOk, depth1, V.ok1, V.isAgg, V.cells, isConst, Nat.reduceBEq, Nat.reduceEqDiff, ↓reduceIte, Nat.reduceLeDiff, Nat.reduceAdd, Nat.reduceMul, Nat.reduceSub, Nat.reduceLT, Int.reduceAdd, Int.reduceSub, Int.reduceMul, Int.reduceLT, Int.reduceLE, Int.reduceToNat, Int.reduceNeg, reduceIte, reduceCtorEq, SPx, cut_one, hcut, hnat, SSx, appendTo, elemsOf, h0, h1, h5, h6, r5, ho, hty, hlen, ints_get?, hdk, e3, co33, sr33, q.iff]
               refine hK _ _ ?_
               clear hK K)
          )
          refine ⟨i + 1, ⟨hd, ?_, ?_, ?_, ?_, ⟨g + 1, 3, ?_, ?_, .inl rfl⟩, by omega, by omega⟩, by omega⟩
          all_goals (try simp (maxSteps := 2000000) (disch := omega) only [SO, ofValue, ofCell, Nat.reduceBEq, Nat.reduceEqDiff, ↓reduceIte, and_self, and_true, true_and, Mem.newRef_eq, Mem.gen_nil, Mem.gen_new, Mem.gen_set, Mem.row_new, Mem.row_setW, Mem.new_out, Mem.set_out, List.length_nil, List.length_cons, Nat.zero_le, Nat.le_refl, Nat.reduceLeDiff, Nat.reduceAdd, and_self, and_true, true_and, Nat.zero_add, SSx, appendTo, elemsOf, h0, h1, ho])
          rw [List.length_map, List.length_take, Nat.min_eq_left (by omega)]
        · simp at h
      · have c2' : ¬ (i : Int) < (k : Int) := by omega
        repeat (first
          | with_reducible first | refine W_seq ?_ | refine W_skip ?_ | refine W_label ?_ | refine W_ret ?_ | refine W_exit ?_ | refine W_block ?_ | refine thenI ?_ | refine thenRet ?_ | refine thenExit ?_ | refine blockRet ?_ | refine blockI ?_ | refine blockExit ?_ | refine blockExitNe rfl ?_
          | (with_reducible refine W_region_k ?_
             intro K hK
             simp (maxSteps := 2000000) (disch := omega) only [SA, ofValue, ofCell, bin, intBin, un, idx, Go.Ev.builtin, calleeOf, V.isNilS, V.depthOk, depth1, V.ok1, V.isAgg, V.cells, isConst, Nat.reduceBEq, Nat.reduceEqDiff, ↓reduceIte, Nat.reduceLeDiff, Nat.reduceAdd, Nat.reduceMul, Nat.reduceSub, Nat.reduceLT, Int.reduceAdd, Int.reduceSub, Int.reduceMul, Int.reduceLT, Int.reduceLE, Int.reduceToNat, Int.reduceNeg, reduceIte, reduceCtorEq, SPx, h0, h1, h6, ints_length, c1', c2']
             refine hK _ _ ?_
             clear hK K)
        )
        with_reducible refine W_cond2 (by simp only [SO, ofValue, ofCell, Nat.reduceBEq, Nat.reduceEqDiff, ↓reduceIte]; rfl) (fun h => ?_) (fun h => ?_)
        · simp at h
        · repeat (first
            | with_reducible first | refine W_seq ?_ | refine W_skip ?_ | refine W_label ?_ | refine W_ret ?_ | refine W_exit ?_ | refine W_block ?_ | refine thenI ?_ | refine thenRet ?_ | refine thenExit ?_ | refine blockRet ?_ | refine blockI ?_ | refine blockExit ?_ | refine blockExitNe rfl ?_
            | (with_reducible refine W_region_k ?_
               intro K hK
               simp (maxSteps := 2000000) (disch := omega) only [SA, ofValue, ofCell, bin, intBin, un, idx, Go.Ev.builtin, calleeOf, V.isNilS, V.depthOk, depth1, V.ok1, V.isAgg, V.cells, isConst, Nat.reduceBEq, Nat.reduceEqDiff, ↓reduceIte, Nat.reduceLeDiff, Nat.reduceAdd, Nat.reduceMul, Nat.reduceSub, Nat.reduceLT, Int.reduceAdd, Int.reduceSub, Int.reduceMul, Int.reduceLT, Int.reduceLE, Int.reduceToNat, Int.reduceNeg, reduceIte, reduceCtorEq]
               refine hK _ _ ?_
               clear hK K)
          )
          obtain rfl : i = k := by omega
          refine ⟨hd, ?_, ⟨g, ty, ?_, ?_, by rw [hlen]; exact hty⟩⟩
          all_goals (try simp (maxSteps := 2000000) (disch := omega) only [SO, ofValue, ofCell, Nat.reduceBEq, Nat.reduceEqDiff, ↓reduceIte, and_self, and_true, true_and, Mem.newRef_eq, Mem.gen_nil, Mem.gen_new, Mem.gen_set, Mem.row_new, Mem.row_setW, Mem.new_out, Mem.set_out, List.length_nil, List.length_cons, Nat.zero_le, Nat.le_refl, Nat.reduceLeDiff, Nat.reduceAdd, and_self, and_true, true_and, Nat.zero_add, ho, h5, r5, hlen])
    · have c1' : ¬ (i : Int) < (raw.length : Int) := by omega
      repeat (first
        | with_reducible first | refine W_seq ?_ | refine W_skip ?_ | refine W_label ?_ | refine W_ret ?_ | refine W_exit ?_ | refine W_block ?_ | refine thenI ?_ | refine thenRet ?_ | refine thenExit ?_ | refine blockRet ?_ | refine blockI ?_ | refine blockExit ?_ | refine blockExitNe rfl ?_
        | (with_reducible refine W_region_k ?_
           intro K hK
           simp (maxSteps := 2000000) (disch := omega) only [SA, ofValue, ofCell, bin, intBin, un, idx, Go.Ev.builtin, calleeOf, V.isNilS, V.depthOk, depth1, V.ok1, V.isAgg, V.cells, isConst, Nat.reduceBEq, Nat.reduceEqDiff, ↓reduceIte, Nat.reduceLeDiff, Nat.reduceAdd, Nat.reduceMul, Nat.reduceSub, Nat.reduceLT, Int.reduceAdd, Int.reduceSub, Int.reduceMul, Int.reduceLT, Int.reduceLE, Int.reduceToNat, Int.reduceNeg, reduceIte, reduceCtorEq, SPx, h0, h1, h6, ints_length, c1']
           refine hK _ _ ?_
           clear hK K)
      )
      with_reducible refine W_cond2 (by simp only [SO, ofValue, ofCell, Nat.reduceBEq, Nat.reduceEqDiff, ↓reduceIte]; rfl) (fun h => ?_) (fun h => ?_)
      · simp at h
      · repeat (first
          | with_reducible first | refine W_seq ?_ | refine W_skip ?_ | refine W_label ?_ | refine W_ret ?_ | refine W_exit ?_ | refine W_block ?_ | refine thenI ?_ | refine thenRet ?_ | refine thenExit ?_ | refine blockRet ?_ | refine blockI ?_ | refine blockExit ?_ | refine blockExitNe rfl ?_
          | (with_reducible refine W_region_k ?_
             intro K hK
             simp (maxSteps := 2000000) (disch := omega) only [SA, ofValue, ofCell, bin, intBin, un, idx, Go.Ev.builtin, calleeOf, V.isNilS, V.depthOk, depth1, V.ok1, V.isAgg, V.cells, isConst, Nat.reduceBEq, Nat.reduceEqDiff, ↓reduceIte, Nat.reduceLeDiff, Nat.reduceAdd, Nat.reduceMul, Nat.reduceSub, Nat.reduceLT, Int.reduceAdd, Int.reduceSub, Int.reduceMul, Int.reduceLT, Int.reduceLE, Int.reduceToNat, Int.reduceNeg, reduceIte, reduceCtorEq]
             refine hK _ _ ?_
             clear hK K)
        )
        obtain rfl : i = raw.length := by omega
        have e : raw.take raw.length = raw.take k := by rw [List.take_of_length_le (Nat.le_refl _), List.take_of_length_le hik]
        rw [e] at r5 hlen
        refine ⟨hd, ?_, ⟨g, ty, ?_, ?_, by rw [hlen]; exact hty⟩⟩
        all_goals (try simp (maxSteps := 2000000) (disch := omega) only [SO, ofValue, ofCell, Nat.reduceBEq, Nat.reduceEqDiff, ↓reduceIte, and_self, and_true, true_and, Mem.newRef_eq, Mem.gen_nil, Mem.gen_new, Mem.gen_set, Mem.row_new, Mem.row_setW, Mem.new_out, Mem.set_out, List.length_nil, List.length_cons, Nat.zero_le, Nat.le_refl, Nat.reduceLeDiff, Nat.reduceAdd, and_self, and_true, true_and, Nat.zero_add, ho, h5, r5, hlen])
  clear hd ho h0 h1 hm
  rintro s ⟨hd, ho, ⟨g, ty, h5, r5, hty⟩⟩
  rw [madeS]
  have hL : ((raw.take k).map bN).length < 1000000 := by rw [List.length_map, List.length_take]; omega
  have hL60 : ∀ x ∈ (raw.take k).map bN, x < 60 := fun x hx => by
    obtain ⟨y, _, rfl⟩ := List.mem_map.1 hx
    exact bN_lt y
  generalize (raw.take k).map bN = L at h5 r5 hty hL hL60 ⊢
  clear hr hk
  repeat (first
    | with_reducible first | refine W_seq ?_ | refine W_skip ?_ | refine W_label ?_ | refine W_ret ?_ | refine W_exit ?_ | refine W_block ?_ | refine thenI ?_ | refine thenRet ?_ | refine thenExit ?_ | refine blockRet ?_ | refine blockI ?_ | refine blockExit ?_ | refine blockExitNe rfl ?_
    | (with_reducible refine W_region_k ?_
       intro K hK
       simp (maxSteps := 2000000) (disch := omega) only [SA, ofValue, ofCell, bin, intBin, un, idx, Go.Ev.builtin, calleeOf, V.isNilS, V.depthOk, depth1, V.ok1, V.isAgg, V.cells, isConst, Nat.reduceBEq, Nat.reduceEqDiff, ↓reduceIte, Nat.reduceLeDiff, Nat.reduceAdd, Nat.reduceMul, Nat.reduceSub, Nat.reduceLT, Int.reduceAdd, Int.reduceSub, Int.reduceMul, Int.reduceLT, Int.reduceLE, Int.reduceToNat, Int.reduceNeg, reduceIte, reduceCtorEq]
       refine hK _ _ ?_
       clear hK K)
  )
  refine W_loopg (fun (j : Nat) s => s.dfs = [] ∧ s.m.out.length = 0 ∧ s.t.get 5 = .rs ⟨0, 5, 1, g⟩ ty j (L.length - j) ∧ s.m.row ⟨0, 5, 1, g⟩ = some ⟨g, ty, true, false, nats L⟩ ∧ j ≤ L.length ∧ ∀ i, i < j → L[i]? = some 0) (fun j => L.length - j) 0 ?_ ?_
  · refine ⟨hd, ho, h5, r5, Nat.zero_le _, fun i h => absurd h (Nat.not_lt_zero _)⟩
  clear hd ho h5 r5
  rintro j s ⟨hd, ho, h5, r5, hj, hz⟩
  by_cases c1 : j < L.length
  · have hty3 : ty = 3 := by rcases hty with h | h; exact h; omega
    obtain ⟨d, hdk⟩ : ∃ d, L[j]? = some d := ⟨L[j], by simp⟩
    have c1' : ((L.length - j : Nat) : Int) > 0 := by omega
    have c1n : (0 : Int) < ((L.length - j : Nat) : Int) := by omega
    by_cases hd0 : d = 0
    · subst hd0
      have e1 : (1 : Int) ≤ ((L.length - j : Nat) : Int) := by omega
      have e2 : L.length - j - 1 = L.length - (j + 1) := by omega
      repeat (first
        | with_reducible first | refine W_seq ?_ | refine W_skip ?_ | refine W_label ?_ | refine W_ret ?_ | refine W_exit ?_ | refine W_block ?_ | refine thenI ?_ | refine thenRet ?_ | refine thenExit ?_ | refine blockRet ?_ | refine blockI ?_ | refine blockExit ?_ | refine blockExitNe rfl ?_
        | (with_reducible refine W_region_k ?_
           intro K hK
           simp (maxSteps := 2000000) (disch := omega) only [SA, ofValue, ofCell, bin, intBin, un, idx, Go.Ev.builtin, calleeOf, V.isNilS, V.depthOk, depth1, V.ok1, V.isAgg, V.cells, isConst, Nat.reduceBEq, Nat.reduceEqDiff, ↓reduceIte, Nat.reduceLeDiff, Nat.reduceAdd, Nat.reduceMul, Nat.reduceSub, Nat.reduceLT, Int.reduceAdd, Int.reduceSub, Int.reduceMul, Int.reduceLT, Int.reduceLE, Int.reduceToNat, Int.reduceNeg, reduceIte, reduceCtorEq, SPx, SSx, appendTo, elemsOf, h5, r5, c1', c1n, nats_get?, hdk, Int.natCast_zero, Int.toNat_zero, hty3]
           refine hK _ _ ?_
           clear hK K)
      )
      with_reducible refine W_cond2 (by simp only [SO, ofValue, ofCell, Nat.reduceBEq, Nat.reduceEqDiff, ↓reduceIte]; rfl) (fun h => ?_) (fun h => ?_)
      · repeat (first
          | with_reducible first | refine W_seq ?_ | refine W_skip ?_ | refine W_label ?_ | refine W_ret ?_ | refine W_exit ?_ | refine W_block ?_ | refine thenI ?_ | refine thenRet ?_ | refine thenExit ?_ | refine blockRet ?_ | refine blockI ?_ | refine blockExit ?_ | refine blockExitNe rfl ?_
          | (with_reducible refine W_region_k ?_
             intro K hK
             simp (maxSteps := 2000000) (disch := omega) only [SA, ofValue, ofCell, bin, intBin, un, idx, Go.Ev.builtin, calleeOf, V.isNilS, V.depthOk, depth1, V.ok1, V.isAgg, V.cells, isConst, Nat.reduceBEq, Nat.reduceEqDiff, ↓reduceIte, Nat.reduceLeDiff, Nat.reduceAdd, Nat.reduceMul, Nat.reduceSub, Nat.reduceLT, Int.reduceAdd, Int.reduceSub, Int.reduceMul, Int.reduceLT, Int.reduceLE, Int.reduceToNat, Int.reduceNeg, reduceIte, reduceCtorEq, SPx, SSx, appendTo, elemsOf, h5, r5, e1, e2, hty3]
             refine hK _ _ ?_
             clear hK K)
        )
        refine ⟨j + 1, ⟨hd, ?_, ?_, ?_, by omega, fun i hi => ?_⟩, by omega⟩
        all_goals (try simp (maxSteps := 2000000) (disch := omega) only [SO, ofValue, ofCell, Nat.reduceBEq, Nat.reduceEqDiff, ↓reduceIte, and_self, and_true, true_and, Mem.newRef_eq, Mem.gen_nil, Mem.gen_new, Mem.gen_set, Mem.row_new, Mem.row_setW, Mem.new_out, Mem.set_out, List.length_nil, List.length_cons, Nat.zero_le, Nat.le_refl, Nat.reduceLeDiff, Nat.reduceAdd, and_self, and_true, true_and, Nat.zero_add, h5, r5, ho, e2, hty3])
        · rcases Nat.lt_or_ge i j with h | h
          · exact hz i h
          · obtain rfl : i = j := by omega
            exact hdk
      · simp at h
    · have e0 : ((d : Int) == 0) = false := by rw [beq_eq_false_iff_ne]; omega
      rw [dropWhile_at hj hz (fun _ => by rw [hdk]; intro e; exact hd0 (Option.some.inj e))]
      clear hz
      repeat (first
        | with_reducible first | refine W_seq ?_ | refine W_skip ?_ | refine W_label ?_ | refine W_ret ?_ | refine W_exit ?_ | refine W_block ?_ | refine thenI ?_ | refine thenRet ?_ | refine thenExit ?_ | refine blockRet ?_ | refine blockI ?_ | refine blockExit ?_ | refine blockExitNe rfl ?_
        | (with_reducible refine W_region_k ?_
           intro K hK
           simp (maxSteps := 2000000) (disch := omega) only [SA, ofValue, ofCell, bin, intBin, un, idx, Go.Ev.builtin, calleeOf, V.isNilS, V.depthOk, depth1, V.ok1, V.isAgg, V.cells, isConst, Nat.reduceBEq, Nat.reduceEqDiff, ↓reduceIte, Nat.reduceLeDiff, Nat.reduceAdd, Nat.reduceMul, Nat.reduceSub, Nat.reduceLT, Int.reduceAdd, Int.reduceSub, Int.reduceMul, Int.reduceLT, Int.reduceLE, Int.reduceToNat, Int.reduceNeg, reduceIte, reduceCtorEq, SPx, SSx, appendTo, elemsOf, h5, r5, c1', c1n, nats_get?, hdk, Int.toNat_zero, e0, hty3]
           refine hK _ _ ?_
           clear hK K)
      )
      with_reducible refine W_cond2 (by simp only [SO, ofValue, ofCell, Nat.reduceBEq, Nat.reduceEqDiff, ↓reduceIte]; rfl) (fun h => ?_) (fun h => ?_)
      · simp at h
      repeat (first
        | with_reducible first | refine W_seq ?_ | refine W_skip ?_ | refine W_label ?_ | refine W_ret ?_ | refine W_exit ?_ | refine W_block ?_ | refine thenI ?_ | refine thenRet ?_ | refine thenExit ?_ | refine blockRet ?_ | refine blockI ?_ | refine blockExit ?_ | refine blockExitNe rfl ?_
        | (with_reducible refine W_region_k ?_
           intro K hK
           simp (maxSteps := 2000000) (disch := omega) only [SA, ofValue, ofCell, bin, intBin, un, idx, Go.Ev.builtin, calleeOf, V.isNilS, V.depthOk, depth1, V.ok1, V.isAgg, V.cells, isConst, Nat.reduceBEq, Nat.reduceEqDiff, ↓reduceIte, Nat.reduceLeDiff, Nat.reduceAdd, Nat.reduceMul, Nat.reduceSub, Nat.reduceLT, Int.reduceAdd, Int.reduceSub, Int.reduceMul, Int.reduceLT, Int.reduceLE, Int.reduceToNat, Int.reduceNeg, reduceIte, reduceCtorEq]
           refine hK _ _ ?_
           clear hK K)
      )
      have hdl : (L.drop j).length = L.length - j := List.length_drop
      refine W_loopg (fun (m : Nat) s => s.dfs = [] ∧ s.m.out.length = 0 ∧ s.t.get 5 = .rs ⟨0, 5, 1, g⟩ ty j m ∧ s.m.row ⟨0, 5, 1, g⟩ = some ⟨g, ty, true, false, nats L⟩ ∧ m ≤ L.length - j ∧ ∀ i, m ≤ i → i < L.length - j → (L.drop j)[i]? = some 0) (fun m => m) (L.length - j) ?_ ?_
      · refine ⟨hd, ?_, ?_, ?_, Nat.le_refl _, fun i h1 h2 => by omega⟩
        all_goals (try simp (maxSteps := 2000000) (disch := omega) only [SO, ofValue, ofCell, Nat.reduceBEq, Nat.reduceEqDiff, ↓reduceIte, and_self, and_true, true_and, Mem.newRef_eq, Mem.gen_nil, Mem.gen_new, Mem.gen_set, Mem.row_new, Mem.row_setW, Mem.new_out, Mem.set_out, List.length_nil, List.length_cons, Nat.zero_le, Nat.le_refl, Nat.reduceLeDiff, Nat.reduceAdd, and_self, and_true, true_and, Nat.zero_add, ho, h5, r5])
      clear hd ho h5 r5
      rintro m s ⟨hd, ho, h5, r5, hm, hz⟩
      have hfin : (0 < m → (L.drop j)[m - 1]? ≠ some 0) → cut (nats L) j m = nats (trimL (L.drop j)) := fun h => by
        rw [trimL_take (by omega) (fun i h1 h2 => hz i h1 (by omega)) h]
        unfold cut nats
        rw [← List.map_drop, ← List.map_take]
      rcases Nat.eq_zero_or_pos m with rfl | hm0
      · have q := hfin (fun h => absurd h (Nat.lt_irrefl 0))
        have hle : j + 0 ≤ L.length := by omega
        repeat (first
          | with_reducible first | refine W_seq ?_ | refine W_skip ?_ | refine W_label ?_ | refine W_ret ?_ | refine W_exit ?_ | refine W_block ?_ | refine thenI ?_ | refine thenRet ?_ | refine thenExit ?_ | refine blockRet ?_ | refine blockI ?_ | refine blockExit ?_ | refine blockExitNe rfl ?_
          | (with_reducible refine W_region_k ?_
             intro K hK
             simp (maxSteps := 2000000) (disch := omega) only [SA, ofValue, ofCell, bin, intBin, un, idx, Go.Ev.builtin, calleeOf, V.isNilS, V.depthOk, depth1, V.ok1, V.isAgg, V.cells, isConst, Nat.reduceBEq, Nat.reduceEqDiff, ↓reduceIte, Nat.reduceLeDiff, Nat.reduceAdd, Nat.reduceMul, Nat.reduceSub, Nat.reduceLT, Int.reduceAdd, Int.reduceSub, Int.reduceMul, Int.reduceLT, Int.reduceLE, Int.reduceToNat, Int.reduceNeg, reduceIte, reduceCtorEq, SPx, SSx, appendTo, elemsOf, h5, Int.natCast_zero, gt_iff_lt, Int.lt_irrefl]
             refine hK _ _ ?_
             clear hK K)
        )
        with_reducible refine W_cond2 (by simp only [SO, ofValue, ofCell, Nat.reduceBEq, Nat.reduceEqDiff, ↓reduceIte]; rfl) (fun h => ?_) (fun h => ?_)
        · simp at h
        · repeat (first
            | with_reducible first | refine W_seq ?_ | refine W_skip ?_ | refine W_label ?_ | refine W_ret ?_ | refine W_exit ?_ | refine W_block ?_ | refine thenI ?_ | refine thenRet ?_ | refine thenExit ?_ | refine blockRet ?_ | refine blockI ?_ | refine blockExit ?_ | refine blockExitNe rfl ?_
            | (with_reducible refine W_region_k ?_
               intro K hK
               simp (maxSteps := 2000000) (disch := omega) only [SA, ofValue, ofCell, bin, intBin, un, idx, Go.Ev.builtin, calleeOf, V.isNilS, V.depthOk, depth1, V.ok1, V.isAgg, V.cells, isConst, Nat.reduceBEq, Nat.reduceEqDiff, ↓reduceIte, Nat.reduceLeDiff, Nat.reduceAdd, Nat.reduceMul, Nat.reduceSub, Nat.reduceLT, Int.reduceAdd, Int.reduceSub, Int.reduceMul, Int.reduceLT, Int.reduceLE, Int.reduceToNat, Int.reduceNeg, reduceIte, reduceCtorEq, SPx, SSx, appendTo, elemsOf, h5]
               refine hK _ _ ?_
               clear hK K)
          )
          refine end_ret hd (by simp (maxSteps := 2000000) (disch := omega) only [Tryd.results27, resVars, resVar, SA, ofValue, ofCell, bin, intBin, un, idx, Go.Ev.builtin, calleeOf, V.isNilS, V.depthOk, depth1, V.ok1, V.isAgg, V.cells, isConst, Nat.reduceBEq, Nat.reduceEqDiff, ↓reduceIte, Nat.reduceLeDiff, Nat.reduceAdd, Nat.reduceMul, Nat.reduceSub, Nat.reduceLT, Int.reduceAdd, Int.reduceSub, Int.reduceMul, Int.reduceLT, Int.reduceLE, Int.reduceToNat, Int.reduceNeg, reduceIte, reduceCtorEq, SPx, SSx, appendTo, elemsOf, SAx, ho, h5, r5, q, hle]; rfl) ?_
          simp (maxSteps := 2000000) (disch := omega) only [SA, ofValue, ofCell, bin, intBin, un, idx, Go.Ev.builtin, calleeOf, V.isNilS, V.depthOk, depth1, V.ok1, V.isAgg, V.cells, isConst, Nat.reduceBEq, Nat.reduceEqDiff, ↓reduceIte, Nat.reduceLeDiff, Nat.reduceAdd, Nat.reduceMul, Nat.reduceSub, Nat.reduceLT, Int.reduceAdd, Int.reduceSub, Int.reduceMul, Int.reduceLT, Int.reduceLE, Int.reduceToNat, Int.reduceNeg, reduceIte, reduceCtorEq, true_and, and_true, Nat.zero_add, Nat.le_refl, if_true, ↓reduceIte, resOf, X_own, mv_int, mv_bool, mv_str, mv_sl, mv_nilS, mv_tup, mv2s_nil, mv2s_cons, mv2_int, mv2_bool, mv2_str, mv2_sl, mv2_nilS, Option.map_some, vi, vn, SPx, SSx, appendTo, elemsOf, SAx, ho, h5, r5, q, hle]
      · have hty3 : ty = 3 := by rcases hty with h | h; exact h; omega
        obtain ⟨d, hdk⟩ : ∃ d, (L.drop j)[m - 1]? = some d := ⟨(L.drop j)[m - 1]'(by omega), by simp⟩
        have hdk' : L[j + (m - 1)]? = some d := by rw [← List.getElem?_drop]; exact hdk
        have m1 : (m : Int) > 0 := by omega
        have m2 : V.int .i64 (wr .i64 ((m : Int) - 1)) = vn (m - 1) := by rw [wr_i64 (by omega) (by omega)]; congr 1; omega
        have m3 : (((m - 1 : Nat) : Int) < (m : Int)) := by omega
        have m4 : (((m - 1 : Nat) : Int) ≤ (m : Int)) := by omega
        have hle : j + m ≤ L.length := by omega
        by_cases hd0 : d = 0
        · subst hd0
          repeat (first
            | with_reducible first | refine W_seq ?_ | refine W_skip ?_ | refine W_label ?_ | refine W_ret ?_ | refine W_exit ?_ | refine W_block ?_ | refine thenI ?_ | refine thenRet ?_ | refine thenExit ?_ | refine blockRet ?_ | refine blockI ?_ | refine blockExit ?_ | refine blockExitNe rfl ?_
            | (with_reducible refine W_region_k ?_
               intro K hK
               simp (maxSteps := 2000000) (disch := omega) only [SA, ofValue, ofCell, bin, intBin, un, idx, Go.Ev.builtin, calleeOf, V.isNilS, V.depthOk, depth1, V.ok1, V.isAgg, V.cells, isConst, Nat.reduceBEq, Nat.reduceEqDiff, ↓reduceIte, Nat.reduceLeDiff, Nat.reduceAdd, Nat.reduceMul, Nat.reduceSub, Nat.reduceLT, Int.reduceAdd, Int.reduceSub, Int.reduceMul, Int.reduceLT, Int.reduceLE, Int.reduceToNat, Int.reduceNeg, reduceIte, reduceCtorEq, SPx, SSx, appendTo, elemsOf, h5, r5, m1, m2, m3, nats_get?, hdk', Int.natCast_zero, hty3]
               refine hK _ _ ?_
               clear hK K)
          )
          with_reducible refine W_cond2 (by simp only [SO, ofValue, ofCell, Nat.reduceBEq, Nat.reduceEqDiff, ↓reduceIte]; rfl) (fun h => ?_) (fun h => ?_)
          · repeat (first
              | with_reducible first | refine W_seq ?_ | refine W_skip ?_ | refine W_label ?_ | refine W_ret ?_ | refine W_exit ?_ | refine W_block ?_ | refine thenI ?_ | refine thenRet ?_ | refine thenExit ?_ | refine blockRet ?_ | refine blockI ?_ | refine blockExit ?_ | refine blockExitNe rfl ?_
              | (with_reducible refine W_region_k ?_
                 intro K hK
                 simp (maxSteps := 2000000) (disch := omega) only [SA, ofValue, ofCell, bin, intBin, un, idx, Go.Ev.builtin, calleeOf, V.isNilS, V.depthOk, depth1, V.ok1, V.isAgg, V.cells, isConst, Nat.reduceBEq, Nat.reduceEqDiff, ↓reduceIte, Nat.reduceLeDiff, Nat.reduceAdd, Nat.reduceMul, Nat.reduceSub, Nat.reduceLT, Int.reduceAdd, Int.reduceSub, Int.reduceMul, Int.reduceLT, Int.reduceLE, Int.reduceToNat, Int.reduceNeg, reduceIte, reduceCtorEq, SPx, SSx, appendTo, elemsOf, h5, r5, m2, m4, Nat.sub_zero, Int.toNat_zero]
                 refine hK _ _ ?_
                 clear hK K)
            )
            refine ⟨m - 1, ⟨hd, ?_, ?_, ?_, by omega, fun i h1 h2 => ?_⟩, by omega⟩
            all_goals (try simp (maxSteps := 2000000) (disch := omega) only [SO, ofValue, ofCell, Nat.reduceBEq, Nat.reduceEqDiff, ↓reduceIte, and_self, and_true, true_and, Mem.newRef_eq, Mem.gen_nil, Mem.gen_new, Mem.gen_set, Mem.row_new, Mem.row_setW, Mem.new_out, Mem.set_out, List.length_nil, List.length_cons, Nat.zero_le, Nat.le_refl, Nat.reduceLeDiff, Nat.reduceAdd, and_self, and_true, true_and, Nat.zero_add, ho, h5, r5])
            rcases Nat.lt_or_ge i m with h | h
            · obtain rfl : i = m - 1 := by omega
              exact hdk
            · exact hz i h h2
          · simp at h
        · have e0 : ((d : Int) == 0) = false := by rw [beq_eq_false_iff_ne]; omega
          have q := hfin (fun _ => by rw [hdk]; intro e; exact hd0 (Option.some.inj e))
          repeat (first
            | with_reducible first | refine W_seq ?_ | refine W_skip ?_ | refine W_label ?_ | refine W_ret ?_ | refine W_exit ?_ | refine W_block ?_ | refine thenI ?_ | refine thenRet ?_ | refine thenExit ?_ | refine blockRet ?_ | refine blockI ?_ | refine blockExit ?_ | refine blockExitNe rfl ?_
            | (with_reducible refine W_region_k ?_
               intro K hK
               simp (maxSteps := 2000000) (disch := omega) only [SA, ofValue, ofCell, bin, intBin, un, idx, Go.Ev.builtin, calleeOf, V.isNilS, V.depthOk, depth1, V.ok1, V.isAgg, V.cells, isConst, Nat.reduceBEq, Nat.reduceEqDiff, ↓reduceIte, Nat.reduceLeDiff, Nat.reduceAdd, Nat.reduceMul, Nat.reduceSub, Nat.reduceLT, Int.reduceAdd, Int.reduceSub, Int.reduceMul, Int.reduceLT, Int.reduceLE, Int.reduceToNat, Int.reduceNeg, reduceIte, reduceCtorEq, SPx, SSx, appendTo, elemsOf, h5, r5, m1, m2, m3, nats_get?, hdk', e0, hty3]
               refine hK _ _ ?_
               clear hK K)
          )
          with_reducible refine W_cond2 (by simp only [SO, ofValue, ofCell, Nat.reduceBEq, Nat.reduceEqDiff, ↓reduceIte]; rfl) (fun h => ?_) (fun h => ?_)
          · simp at h
          · repeat (first
              | with_reducible first | refine W_seq ?_ | refine W_skip ?_ | refine W_label ?_ | refine W_ret ?_ | refine W_exit ?_ | refine W_block ?_ | refine thenI ?_ | refine thenRet ?_ | refine thenExit ?_ | refine blockRet ?_ | refine blockI ?_ | refine blockExit ?_ | refine blockExitNe rfl ?_
              | (with_reducible refine W_region_k ?_
                 intro K hK
                 simp (maxSteps := 2000000) (disch := omega) only [SA, ofValue, ofCell, bin, intBin, un, idx, Go.Ev.builtin, calleeOf, V.isNilS, V.depthOk, depth1, V.ok1, V.isAgg, V.cells, isConst, Nat.reduceBEq, Nat.reduceEqDiff, ↓reduceIte, Nat.reduceLeDiff, Nat.reduceAdd, Nat.reduceMul, Nat.reduceSub, Nat.reduceLT, Int.reduceAdd, Int.reduceSub, Int.reduceMul, Int.reduceLT, Int.reduceLE, Int.reduceToNat, Int.reduceNeg, reduceIte, reduceCtorEq, SPx, SSx, appendTo, elemsOf, h5]
                 refine hK _ _ ?_
                 clear hK K)
            )
            refine end_ret hd (by simp (maxSteps := 2000000) (disch := omega) only [Tryd.results27, resVars, resVar, SA, ofValue, ofCell, bin, intBin, un, idx, Go.Ev.builtin, calleeOf, V.isNilS, V.depthOk, depth1, V.ok1, V.isAgg, V.cells, isConst, Nat.reduceBEq, Nat.reduceEqDiff, ↓reduceIte, Nat.reduceLeDiff, Nat.reduceAdd, Nat.reduceMul, Nat.reduceSub, Nat.reduceLT, Int.reduceAdd, Int.reduceSub, Int.reduceMul, Int.reduceLT, Int.reduceLE, Int.reduceToNat, Int.reduceNeg, reduceIte, reduceCtorEq, SPx, SSx, appendTo, elemsOf, SAx, ho, h5, r5, q, hle]; rfl) ?_
            simp (maxSteps := 2000000) (disch := omega) only [SA, ofValue, ofCell, bin, intBin, un, idx, Go.Ev.builtin, calleeOf, V.isNilS, V.depthOk, depth1, V.ok1, V.isAgg, V.cells, isConst, Nat.reduceBEq, Nat.reduceEqDiff, ↓reduceIte, Nat.reduceLeDiff, Nat.reduceAdd, Nat.reduceMul, Nat.reduceSub, Nat.reduceLT, Int.reduceAdd, Int.reduceSub, Int.reduceMul, Int.reduceLT, Int.reduceLE, Int.reduceToNat, Int.reduceNeg, reduceIte, reduceCtorEq, true_and, and_true, Nat.zero_add, Nat.le_refl, if_true, ↓reduceIte, resOf, X_own, mv_int, mv_bool, mv_str, mv_sl, mv_nilS, mv_tup, mv2s_nil, mv2s_cons, mv2_int, mv2_bool, mv2_str, mv2_sl, mv2_nilS, Option.map_some, vi, vn, SPx, SSx, appendTo, elemsOf, SAx, ho, h5, r5, q, hle]
  · have c1' : ¬ ((L.length - j : Nat) : Int) > 0 := by omega
    rw [dropWhile_at hj hz (fun h => absurd h c1)]
    clear hz
    repeat (first
      | with_reducible first | refine W_seq ?_ | refine W_skip ?_ | refine W_label ?_ | refine W_ret ?_ | refine W_exit ?_ | refine W_block ?_ | refine thenI ?_ | refine thenRet ?_ | refine thenExit ?_ | refine blockRet ?_ | refine blockI ?_ | refine blockExit ?_ | refine blockExitNe rfl ?_
      | (with_reducible refine W_region_k ?_
         intro K hK
         simp (maxSteps := 2000000) (disch := omega) only [SA, ofValue, ofCell, bin, intBin, un, idx, Go.Ev.builtin, calleeOf, V.isNilS, V.depthOk, depth1, V.ok1, V.isAgg, V.cells, isConst, Nat.reduceBEq, Nat.reduceEqDiff, ↓reduceIte, Nat.reduceLeDiff, Nat.reduceAdd, Nat.reduceMul, Nat.reduceSub, Nat.reduceLT, Int.reduceAdd, Int.reduceSub, Int.reduceMul, Int.reduceLT, Int.reduceLE, Int.reduceToNat, Int.reduceNeg, reduceIte, reduceCtorEq, SPx, SSx, appendTo, elemsOf, h5, r5, c1']
         refine hK _ _ ?_
         clear hK K)
    )
    with_reducible refine W_cond2 (by simp only [SO, ofValue, ofCell, Nat.reduceBEq, Nat.reduceEqDiff, ↓reduceIte]; rfl) (fun h => ?_) (fun h => ?_)
    · simp at h
    repeat (first
      | with_reducible first | refine W_seq ?_ | refine W_skip ?_ | refine W_label ?_ | refine W_ret ?_ | refine W_exit ?_ | refine W_block ?_ | refine thenI ?_ | refine thenRet ?_ | refine thenExit ?_ | refine blockRet ?_ | refine blockI ?_ | refine blockExit ?_ | refine blockExitNe rfl ?_
      | (with_reducible refine W_region_k ?_
         intro K hK
         simp (maxSteps := 2000000) (disch := omega) only [SA, ofValue, ofCell, bin, intBin, un, idx, Go.Ev.builtin, calleeOf, V.isNilS, V.depthOk, depth1, V.ok1, V.isAgg, V.cells, isConst, Nat.reduceBEq, Nat.reduceEqDiff, ↓reduceIte, Nat.reduceLeDiff, Nat.reduceAdd, Nat.reduceMul, Nat.reduceSub, Nat.reduceLT, Int.reduceAdd, Int.reduceSub, Int.reduceMul, Int.reduceLT, Int.reduceLE, Int.reduceToNat, Int.reduceNeg, reduceIte, reduceCtorEq]
         refine hK _ _ ?_
         clear hK K)
    )
    have hdl : (L.drop j).length = L.length - j := List.length_drop
    refine W_loopg (fun (m : Nat) s => s.dfs = [] ∧ s.m.out.length = 0 ∧ s.t.get 5 = .rs ⟨0, 5, 1, g⟩ ty j m ∧ s.m.row ⟨0, 5, 1, g⟩ = some ⟨g, ty, true, false, nats L⟩ ∧ m ≤ L.length - j ∧ ∀ i, m ≤ i → i < L.length - j → (L.drop j)[i]? = some 0) (fun m => m) (L.length - j) ?_ ?_
    · refine ⟨hd, ?_, ?_, ?_, Nat.le_refl _, fun i h1 h2 => by omega⟩
      all_goals (try simp (maxSteps := 2000000) (disch := omega) only [SO, ofValue, ofCell, Nat.reduceBEq, Nat.reduceEqDiff, ↓reduceIte, and_self, and_true, true_and, Mem.newRef_eq, Mem.gen_nil, Mem.gen_new, Mem.gen_set, Mem.row_new, Mem.row_setW, Mem.new_out, Mem.set_out, List.length_nil, List.length_cons, Nat.zero_le, Nat.le_refl, Nat.reduceLeDiff, Nat.reduceAdd, and_self, and_true, true_and, Nat.zero_add, ho, h5, r5])
    clear hd ho h5 r5
    rintro m s ⟨hd, ho, h5, r5, hm, hz⟩
    have hfin : (0 < m → (L.drop j)[m - 1]? ≠ some 0) → cut (nats L) j m = nats (trimL (L.drop j)) := fun h => by
      rw [trimL_take (by omega) (fun i h1 h2 => hz i h1 (by omega)) h]
      unfold cut nats
      rw [← List.map_drop, ← List.map_take]
    rcases Nat.eq_zero_or_pos m with rfl | hm0
    · have q := hfin (fun h => absurd h (Nat.lt_irrefl 0))
      have hle : j + 0 ≤ L.length := by omega
      repeat (first
        | with_reducible first | refine W_seq ?_ | refine W_skip ?_ | refine W_label ?_ | refine W_ret ?_ | refine W_exit ?_ | refine W_block ?_ | refine thenI ?_ | refine thenRet ?_ | refine thenExit ?_ | refine blockRet ?_ | refine blockI ?_ | refine blockExit ?_ | refine blockExitNe rfl ?_
        | (with_reducible refine W_region_k ?_
           intro K hK
           simp (maxSteps := 2000000) (disch := omega) only [SA, ofValue, ofCell, bin, intBin, un, idx, Go.Ev.builtin, calleeOf, V.isNilS, V.depthOk, depth1, V.ok1, V.isAgg, V.cells, isConst, Nat.reduceBEq, Nat.reduceEqDiff, ↓reduceIte, Nat.reduceLeDiff, Nat.reduceAdd, Nat.reduceMul, Nat.reduceSub, Nat.reduceLT, Int.reduceAdd, Int.reduceSub, Int.reduceMul, Int.reduceLT, Int.reduceLE, Int.reduceToNat, Int.reduceNeg, reduceIte, reduceCtorEq, SPx, SSx, appendTo, elemsOf, h5, Int.natCast_zero, gt_iff_lt, Int.lt_irrefl]
           refine hK _ _ ?_
           clear hK K)
      )
      with_reducible refine W_cond2 (by simp only [SO, ofValue, ofCell, Nat.reduceBEq, Nat.reduceEqDiff, ↓reduceIte]; rfl) (fun h => ?_) (fun h => ?_)
      · simp at h
      · repeat (first
          | with_reducible first | refine W_seq ?_ | refine W_skip ?_ | refine W_label ?_ | refine W_ret ?_ | refine W_exit ?_ | refine W_block ?_ | refine thenI ?_ | refine thenRet ?_ | refine thenExit ?_ | refine blockRet ?_ | refine blockI ?_ | refine blockExit ?_ | refine blockExitNe rfl ?_
          | (with_reducible refine W_region_k ?_
             intro K hK
             simp (maxSteps := 2000000) (disch := omega) only [SA, ofValue, ofCell, bin, intBin, un, idx, Go.Ev.builtin, calleeOf, V.isNilS, V.depthOk, depth1, V.ok1, V.isAgg, V.cells, isConst, Nat.reduceBEq, Nat.reduceEqDiff, ↓reduceIte, Nat.reduceLeDiff, Nat.reduceAdd, Nat.reduceMul, Nat.reduceSub, Nat.reduceLT, Int.reduceAdd, Int.reduceSub, Int.reduceMul, Int.reduceLT, Int.reduceLE, Int.reduceToNat, Int.reduceNeg, reduceIte, reduceCtorEq, SPx, SSx, appendTo, elemsOf, h5]
             refine hK _ _ ?_
             clear hK K)
        )
        refine end_ret hd (by simp (maxSteps := 2000000) (disch := omega) only [Tryd.results27, resVars, resVar, SA, ofValue, ofCell, bin, intBin, un, idx, Go.Ev.builtin, calleeOf, V.isNilS, V.depthOk, depth1, V.ok1, V.isAgg, V.cells, isConst, Nat.reduceBEq, Nat.reduceEqDiff, ↓reduceIte, Nat.reduceLeDiff, Nat.reduceAdd, Nat.reduceMul, Nat.reduceSub, Nat.reduceLT, Int.reduceAdd, Int.reduceSub, Int.reduceMul, Int.reduceLT, Int.reduceLE, Int.reduceToNat, Int.reduceNeg, reduceIte, reduceCtorEq, SPx, SSx, appendTo, elemsOf, SAx, ho, h5, r5, q, hle]; rfl) ?_
        simp (maxSteps := 2000000) (disch := omega) only [SA, ofValue, ofCell, bin, intBin, un, idx, Go.Ev.builtin, calleeOf, V.isNilS, V.depthOk, depth1, V.ok1, V.isAgg, V.cells, isConst, Nat.reduceBEq, Nat.reduceEqDiff, ↓reduceIte, Nat.reduceLeDiff, Nat.reduceAdd, Nat.reduceMul, Nat.reduceSub, Nat.reduceLT, Int.reduceAdd, Int.reduceSub, Int.reduceMul, Int.reduceLT, Int.reduceLE, Int.reduceToNat, Int.reduceNeg, reduceIte, reduceCtorEq, true_and, and_true, Nat.zero_add, Nat.le_refl, if_true, ↓reduceIte, resOf, X_own, mv_int, mv_bool, mv_str, mv_sl, mv_nilS, mv_tup, mv2s_nil, mv2s_cons, mv2_int, mv2_bool, mv2_str, mv2_sl, mv2_nilS, Option.map_some, vi, vn, SPx, SSx, appendTo, elemsOf, SAx, ho, h5, r5, q, hle]
    · have hty3 : ty = 3 := by rcases hty with h | h; exact h; omega
      obtain ⟨d, hdk⟩ : ∃ d, (L.drop j)[m - 1]? = some d := ⟨(L.drop j)[m - 1]'(by omega), by simp⟩
      have hdk' : L[j + (m - 1)]? = some d := by rw [← List.getElem?_drop]; exact hdk
      have m1 : (m : Int) > 0 := by omega
      have m2 : V.int .i64 (wr .i64 ((m : Int) - 1)) = vn (m - 1) := by rw [wr_i64 (by omega) (by omega)]; congr 1; omega
      have m3 : (((m - 1 : Nat) : Int) < (m : Int)) := by omega
      have m4 : (((m - 1 : Nat) : Int) ≤ (m : Int)) := by omega
      have hle : j + m ≤ L.length := by omega
      by_cases hd0 : d = 0
      · subst hd0
        repeat (first
          | with_reducible first | refine W_seq ?_ | refine W_skip ?_ | refine W_label ?_ | refine W_ret ?_ | refine W_exit ?_ | refine W_block ?_ | refine thenI ?_ | refine thenRet ?_ | refine thenExit ?_ | refine blockRet ?_ | refine blockI ?_ | refine blockExit ?_ | refine blockExitNe rfl ?_
          | (with_reducible refine W_region_k ?_
             intro K hK
             simp (maxSteps := 2000000) (disch := omega) only [SA, ofValue, ofCell, bin, intBin, un, idx, Go.Ev.builtin, calleeOf, V.isNilS, V.depthOk, depth1, V.ok1, V.isAgg, V.cells, isConst, Nat.reduceBEq, Nat.reduceEqDiff, ↓reduceIte, Nat.reduceLeDiff, Nat.reduceAdd, Nat.reduceMul, Nat.reduceSub, Nat.reduceLT, Int.reduceAdd, Int.reduceSub, Int.reduceMul, Int.reduceLT, Int.reduceLE, Int.reduceToNat, Int.reduceNeg, reduceIte, reduceCtorEq, SPx, SSx, appendTo, elemsOf, h5, r5, m1, m2, m3, nats_get?, hdk', Int.natCast_zero, hty3]
             refine hK _ _ ?_
             clear hK K)
        )
        with_reducible refine W_cond2 (by simp only [SO, ofValue, ofCell, Nat.reduceBEq, Nat.reduceEqDiff, ↓reduceIte]; rfl) (fun h => ?_) (fun h => ?_)
        · repeat (first
            | with_reducible first | refine W_seq ?_ | refine W_skip ?_ | refine W_label ?_ | refine W_ret ?_ | refine W_exit ?_ | refine W_block ?_ | refine thenI ?_ | refine thenRet ?_ | refine thenExit ?_ | refine blockRet ?_ | refine blockI ?_ | refine blockExit ?_ | refine blockExitNe rfl ?_
            | (with_reducible refine W_region_k ?_
               intro K hK
               simp (maxSteps := 2000000) (disch := omega) only [SA, ofValue, ofCell, bin, intBin, un, idx, Go.Ev.builtin, calleeOf, V.isNilS, V.depthOk, depth1, V.ok1, V.isAgg, V.cells, isConst, Nat.reduceBEq, Nat.reduceEqDiff, ↓reduceIte, Nat.reduceLeDiff, Nat.reduceAdd, Nat.reduceMul, Nat.reduceSub, Nat.reduceLT, Int.reduceAdd, Int.reduceSub, Int.reduceMul, Int.reduceLT, Int.reduceLE, Int.reduceToNat, Int.reduceNeg, reduceIte, reduceCtorEq, SPx, SSx, appendTo, elemsOf, h5, r5, m2, m4, Nat.sub_zero, Int.toNat_zero]
               refine hK _ _ ?_
               clear hK K)
          )
          refine ⟨m - 1, ⟨hd, ?_, ?_, ?_, by omega, fun i h1 h2 => ?_⟩, by omega⟩
          all_goals (try simp (maxSteps := 2000000) (disch := omega) only [SO, ofValue, ofCell, Nat.reduceBEq, Nat.reduceEqDiff, ↓reduceIte, and_self, and_true, true_and, Mem.newRef_eq, Mem.gen_nil, Mem.gen_new, Mem.gen_set, Mem.row_new, Mem.row_setW, Mem.new_out, Mem.set_out, List.length_nil, List.length_cons, Nat.zero_le, Nat.le_refl, Nat.reduceLeDiff, Nat.reduceAdd, and_self, and_true, true_and, Nat.zero_add, ho, h5, r5])
          rcases Nat.lt_or_ge i m with h | h
          · obtain rfl : i = m - 1 := by omega
            exact hdk
          · exact hz i h h2
        · simp at h
      · have e0 : ((d : Int) == 0) = false := by rw [beq_eq_false_iff_ne]; omega
        have q := hfin (fun _ => by rw [hdk]; intro e; exact hd0 (Option.some.inj e))
        repeat (first
          | with_reducible first | refine W_seq ?_ | refine W_skip ?_ | refine W_label ?_ | refine W_ret ?_ | refine W_exit ?_ | refine W_block ?_ | refine thenI ?_ | refine thenRet ?_ | refine thenExit ?_ | refine blockRet ?_ | refine blockI ?_ | refine blockExit ?_ | refine blockExitNe rfl ?_
          | (with_reducible refine W_region_k ?_
             intro K hK
             simp (maxSteps := 2000000) (disch := omega) only [SA, ofValue, ofCell, bin, intBin, un, idx, Go.Ev.builtin, calleeOf, V.isNilS, V.depthOk, depth1, V.ok1, V.isAgg, V.cells, isConst, Nat.reduceBEq, Nat.reduceEqDiff, ↓reduceIte, Nat.reduceLeDiff, Nat.reduceAdd, Nat.reduceMul, Nat.reduceSub, Nat.reduceLT, Int.reduceAdd, Int.reduceSub, Int.reduceMul, Int.reduceLT, Int.reduceLE, Int.reduceToNat, Int.reduceNeg, reduceIte, reduceCtorEq, SPx, SSx, appendTo, elemsOf, h5, r5, m1, m2, m3, nats_get?, hdk', e0, hty3]
             refine hK _ _ ?_
             clear hK K)
        )
        with_reducible refine W_cond2 (by simp only [SO, ofValue, ofCell, Nat.reduceBEq, Nat.reduceEqDiff, ↓reduceIte]; rfl) (fun h => ?_) (fun h => ?_)
        · simp at h
        · repeat (first
            | with_reducible first | refine W_seq ?_ | refine W_skip ?_ | refine W_label ?_ | refine W_ret ?_ | refine W_exit ?_ | refine W_block ?_ | refine thenI ?_ | refine thenRet ?_ | refine thenExit ?_ | refine blockRet ?_ | refine blockI ?_ | refine blockExit ?_ | refine blockExitNe rfl ?_
            | (with_reducible refine W_region_k ?_
               intro K hK
               simp (maxSteps := 2000000) (disch := omega) only [SA, ofValue, ofCell, bin, intBin, un, idx, Go.Ev.builtin, calleeOf, V.isNilS, V.depthOk, depth1, V.ok1, V.isAgg, V.cells, isConst, Nat.reduceBEq, Nat.reduceEqDiff, ↓reduceIte, Nat.reduceLeDiff, Nat.reduceAdd, Nat.reduceMul, Nat.reduceSub, Nat.reduceLT, Int.reduceAdd, Int.reduceSub, Int.reduceMul, Int.reduceLT, Int.reduceLE, Int.reduceToNat, Int.reduceNeg, reduceIte, reduceCtorEq, SPx, SSx, appendTo, elemsOf, h5]
               refine hK _ _ ?_
               clear hK K)
          )
          refine end_ret hd (by simp (maxSteps := 2000000) (disch := omega) only [Tryd.results27, resVars, resVar, SA, ofValue, ofCell, bin, intBin, un, idx, Go.Ev.builtin, calleeOf, V.isNilS, V.depthOk, depth1, V.ok1, V.isAgg, V.cells, isConst, Nat.reduceBEq, Nat.reduceEqDiff, ↓reduceIte, Nat.reduceLeDiff, Nat.reduceAdd, Nat.reduceMul, Nat.reduceSub, Nat.reduceLT, Int.reduceAdd, Int.reduceSub, Int.reduceMul, Int.reduceLT, Int.reduceLE, Int.reduceToNat, Int.reduceNeg, reduceIte, reduceCtorEq, SPx, SSx, appendTo, elemsOf, SAx, ho, h5, r5, q, hle]; rfl) ?_
          simp (maxSteps := 2000000) (disch := omega) only [SA, ofValue, ofCell, bin, intBin, un, idx, Go.Ev.builtin, calleeOf, V.isNilS, V.depthOk, depth1, V.ok1, V.isAgg, V.cells, isConst, Nat.reduceBEq, Nat.reduceEqDiff, ↓reduceIte, Nat.reduceLeDiff, Nat.reduceAdd, Nat.reduceMul, Nat.reduceSub, Nat.reduceLT, Int.reduceAdd, Int.reduceSub, Int.reduceMul, Int.reduceLT, Int.reduceLE, Int.reduceToNat, Int.reduceNeg, reduceIte, reduceCtorEq, true_and, and_true, Nat.zero_add, Nat.le_refl, if_true, ↓reduceIte, resOf, X_own, mv_int, mv_bool, mv_str, mv_sl, mv_nilS, mv_tup, mv2s_nil, mv2s_cons, mv2_int, mv2_bool, mv2_str, mv2_sl, mv2_nilS, Option.map_some, vi, vn, SPx, SSx, appendTo, elemsOf, SAx, ho, h5, r5, q, hle]
end Go.Proofs.YtpocekfifokndaaDoor
namespace Go.Proofs.YtpocekfifokndaaDoor
open Go Go.Ev Go.Pl
set_option maxRecDepth 100000
set_option maxHeartbeats 4000000
def zi (a : List Nat) : List Int := a.map Int.ofNat
theorem nats_zi (a : List Nat) : nats a = ints (zi a) := nats_ints a
theorem natsOf_zi (a : List Nat) : natsOf (zi a) = a := by simp [natsOf, zi, Function.comp_def]
theorem numI_zi (a : List Nat) : numI (zi a) = numL a.reverse := by rw [numI, natsOf_zi]
structure Val (n : Nat) (a : List Nat) : Prop where
  lt : ∀ d ∈ a, d < 60
  len : a.length ≤ n
  head : a.head? ≠ some 0
  last : a.getLast? ≠ some 0
theorem Val.mono {n m : Nat} {a : List Nat} (h : Val n a) (hm : n ≤ m) : Val m a := ⟨h.lt, Nat.le_trans h.len hm, h.head, h.last⟩
theorem Val.chk {a : List Nat} (h : Val 16 a) : chk (zi a) = 0 := by
  have hl : (zi a).length = a.length := by simp [zi]
  unfold YtpocekfifokndaaDoor.chk
  rw [hl, if_neg (by have := h.len; omega), if_neg, if_neg]
  · rintro ⟨hp, h1 | h1⟩
    · rw [zi, List.getElem?_map, ← List.head?_eq_getElem?] at h1
      cases hx : a.head? with
      | none => rw [hx] at h1; simp at h1
      | some d =>
        rw [hx] at h1
        simp only [Option.map_some, Option.some.injEq] at h1
        exact h.head (by rw [hx]; congr 1; exact Int.ofNat.inj h1)
    · rw [zi, List.getElem?_map, ← List.getLast?_eq_getElem?] at h1
      cases hx : a.getLast? with
      | none => rw [hx] at h1; simp at h1
      | some d =>
        rw [hx] at h1
        simp only [Option.map_some, Option.some.injEq] at h1
        exact h.last (by rw [hx]; congr 1; exact Int.ofNat.inj h1)
  · intro h1
    obtain ⟨x, hx, hb⟩ := List.any_eq_true.1 h1
    obtain ⟨d, hd, rfl⟩ := List.mem_map.1 hx
    have := h.lt d hd
    simp only [Bool.or_eq_true, decide_eq_true_eq] at hb
    have e : (Int.ofNat d) = (d : Int) := rfl
    omega
theorem Val.num_lt {n : Nat} {a : List Nat} (h : Val n a) : numL a.reverse < 60 ^ n := by
  have := Go.Pl.num_lt (l := a.reverse) (fun d hd => h.lt d (List.mem_reverse.1 hd))
  rw [List.length_reverse] at this
  exact lt_pow_mono this h.len
theorem Val.digB {n : Nat} {a : List Nat} (h : Val n a) : Go.Pl.digB (numL a.reverse) = a := digB_num h.lt h.head h.last
theorem digB_len {N n : Nat} (h : N < 60 ^ n) : (Go.Pl.digB N).length ≤ n := by
  have h1 := canL_length_le.2 h
  have h2 := canL_len_core N
  omega
theorem digB_val {N n : Nat} (h : N < 60 ^ n) : Val n (Go.Pl.digB N) := by
  refine ⟨digB_lt N, digB_len h, ?_, ?_⟩
  · rcases Nat.eq_zero_or_pos N with rfl | hp
    · rw [digB_zero]; simp
    · rw [List.head?_eq_getElem?, digB_get N (digB_pos hp)]
      intro e
      exact top_dig hp (Option.some.inj e)
  · rcases Nat.eq_zero_or_pos N with rfl | hp
    · rw [digB_zero]; simp
    · have h0 := digB_pos hp
      have h2 := canL_len_core N
      rw [List.getLast?_eq_getElem?, digB_get N (by omega)]
      intro e
      have e' := Option.some.inj e
      rw [show (canL N).length - 1 - ((Go.Pl.digB N).length - 1) = vz N by omega] at e'
      exact vz_dig hp e'
theorem digB_eq_nil {N : Nat} : Go.Pl.digB N = [] ↔ N = 0 := by
  constructor
  · intro e
    rcases Nat.eq_zero_or_pos N with h | h
    · exact h
    · have := digB_pos h; rw [e] at this; simp at this
  · rintro rfl; exact digB_zero
theorem digB_core_mul (N M : Nat) : Go.Pl.digB (core N * M) = Go.Pl.digB (N * M) := by
  conv => rhs; rw [core_eq N, Nat.mul_right_comm]
  rw [digB_shift]
theorem Q23 {a b : List Nat} (ha : Val 16 a) (hb : Val 16 b) (h : (Go.Pl.digB (numL a.reverse * numL b.reverse)).length ≤ 16) :
    Ans X 23 [.sl (nats a), .sl (nats b)] (.ret (.tup [.sl (nats (Go.Pl.digB (numL a.reverse * numL b.reverse))), vi 0])) := by
  have q := P23 (zi a) (zi b)
  have hc : chk2 (zi a) (zi b) = 0 := by unfold chk2; rw [if_pos ha.chk]; exact hb.chk
  rw [mulS, if_neg (fun e => e hc), numI_zi, numI_zi, if_neg (by omega), ← nats_zi, ← nats_zi] at q
  exact q
theorem Q28 {a : List Nat} (ha : Val 16 a) : Ans X 28 [.sl (nats a)] (.ret (vi 0)) := by
  have q := P28 (zi a)
  rw [ha.chk, ← nats_zi] at q
  exact q
theorem zi_inj {a b : List Nat} : zi a = zi b ↔ a = b := by
  constructor
  · intro e
    have := congrArg natsOf e
    rw [natsOf_zi, natsOf_zi] at this; exact this
  · rintro rfl; rfl
theorem Q29 (a b : List Nat) (e : Int) (hl : a.length < 1000000000000) : Ans X 29 [.sl (nats a), vi e, .sl (nats b)] (.ret (.bool (decide (e = 0 ∧ a = b)))) := by
  have q := P29 (zi a) (zi b) e (by simpa [zi] using hl)
  rw [← nats_zi, ← nats_zi] at q
  simpa only [zi_inj] using q
theorem dropWhile_head (l : List Nat) : (l.dropWhile (· == 0)).head? ≠ some 0 := by
  intro e
  have := List.head?_dropWhile_not (fun x : Nat => x == 0) l
  rw [e] at this
  simp at this
theorem trimL_prefix : ∀ l : List Nat, ∃ k, trimL l = l.take k ∧ k ≤ l.length
  | [] => ⟨0, rfl, Nat.le_refl _⟩
  | d :: ds => by
    obtain ⟨k, h1, h2⟩ := trimL_prefix ds
    unfold trimL
    split
    · exact ⟨0, rfl, Nat.zero_le _⟩
    · exact ⟨k + 1, by rw [h1]; rfl, by simpa using h2⟩
theorem trimL_head {l : List Nat} (h : l.head? ≠ some 0) : (trimL l).head? ≠ some 0 := by
  obtain ⟨k, h1, h2⟩ := trimL_prefix l
  rw [h1]
  cases k with
  | zero => simp
  | succ k =>
    cases l with
    | nil => simp
    | cons d ds => simpa using h
theorem made_val (raw : List Int) (k : Nat) : Val k (madeS raw k) := by
  refine ⟨fun d hd => ?_, ?_, ?_, ?_⟩
  · have h1 := trimL_mem hd
    have h2 := (List.dropWhile_sublist (fun x : Nat => x == 0) (l := (raw.take k).map bN)).subset h1
    obtain ⟨y, _, rfl⟩ := List.mem_map.1 h2
    exact bN_lt y
  · obtain ⟨m, h1, h2⟩ := trimL_prefix (((raw.take k).map bN).dropWhile (· == 0))
    have h3 := (List.dropWhile_sublist (fun x : Nat => x == 0) (l := (raw.take k).map bN)).length_le
    rw [madeS, h1, List.length_take]
    rw [List.length_map, List.length_take] at h3
    omega
  · exact trimL_head (dropWhile_head _)
  · exact trimL_last _
theorem eqT4 (a b : Bool) : eqT Tryd.prog 8 4 (.bool a) (.bool b) = some (a == b) := by
  unfold eqT
  rw [Tryd.underlying4]
theorem eqOkb (t : TypeId) (cx cy a b : Bool) : eqOk Tryd.prog t cx cy (.bool a) (.bool b) = true := rfl
theorem mul_lt {N M a b : Nat} (hN : N < 60 ^ a) (hM : M < 60 ^ b) : N * M < 60 ^ (a + b) := by
  rw [Nat.pow_add]; exact Nat.mul_lt_mul'' hN hM
theorem Q25 (l : List Nat) (h : l.length < 1000000000000) : Ans X 25 [.sl (nats l), .sl (nats l)] (.ret (.bool true)) := by
  have q := P25 (l.map Int.ofNat) (l.map Int.ofNat) (by rw [List.length_map]; exact h)
  rw [← nats_ints, decide_eq_true rfl] at q
  exact q
end Go.Proofs.YtpocekfifokndaaDoor
