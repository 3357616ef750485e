/- Part 3 of the proof: an evaluator of the program, proved sound against the model, and what the functions of the program compute. No condition but those each theorem states. -/
import Derived.Test.YtpocekfifokndaaDoorG1
import Derived.Test.YtpocekfifokndaaDoorG2
set_option linter.unusedSimpArgs false
set_option linter.unusedVariables false
namespace Go.Proofs.YtpocekfifokndaaDoor
open Go Go.Ev Go.Pl
set_option maxRecDepth 100000
set_option maxHeartbeats 4000000
theorem P23 (a b : List Int) : Ans X 23 [.sl (ints a), .sl (ints b)] (.ret (.tup [.sl (nats (mulS a b).1), vi (mulS a b).2])) := by
  refine call_of_X (fn := Tryd.f23) 2 Tryd.func23 rfl (by decide +kernel) rfl ?_ ?_ ?_ ?_
  · rfl
  · intro h; exact absurd h (by rw [sr23]; decide)
  · intro v hv; injection hv with hv; subst hv; rfl
  intro s hs hd ho
  have hm : s.m = ⟨.nil, []⟩ := by subst hs; rfl
  have h0 : s.t.get 0 = .sl (ints a) := by subst hs; rfl
  have h1 : s.t.get 1 = .sl (ints b) := by subst hs; rfl
  clear hs
  have key : ∀ (m : Mem) (dst : Nat) (K KP : V → Mem → Prop), m.out = [] → m.row ⟨0, 2, 0, 1⟩ = some ⟨1, 22, false, false, [.sl (ints a)]⟩ → m.row ⟨0, 3, 0, 1⟩ = some ⟨1, 22, false, false, [.sl (ints b)]⟩ →
      (CallQ X 77 [vi (chk2 a b), .fn 79 [] [.ptr ⟨0, 2, 0, 1⟩ 0 0, .ptr ⟨0, 3, 0, 1⟩ 0 0]] m dst K KP ↔ K (.tup [.sl (nats (mulS a b).1), vi (mulS a b).2]) m) := by
    rintro ⟨own, out⟩ dst K KP ho r2 r3
    dsimp only at ho
    subst ho
    by_cases h : chk2 a b = 0
    · obtain ⟨ha, hb⟩ := chk2_ok h
      obtain ⟨a1, a2, a3', a4, _⟩ := chk_ok ha
      obtain ⟨b1, b2, b3', b4, _⟩ := chk_ok hb
      rw [a1] at r2
      rw [b1] at r3
      have hg : ∀ o1, _ := fun o1 => P79 (natsOf a) (natsOf b) a2 b2 (by omega) (by omega) o1 own r2 r3
      rw [h]
      refine AnsAt.iff (m := ⟨own, []⟩) (M77 79 _ own _ rfl co79 sr79 hg _ ?_)
      by_cases hl : 16 < (digB (numL (natsOf a).reverse * numL (natsOf b).reverse)).length
      · right
        refine ⟨3, by rw [if_pos hl], ?_⟩
        have hl2 : 16 < (digB (numI a * numI b)).length := hl
        rw [mulS, if_neg (fun e => e h), if_pos hl2]; rfl
      · left
        refine ⟨_, by rw [if_neg hl], ?_⟩
        have hl2 : ¬ 16 < (digB (numI a * numI b)).length := hl
        rw [mulS, if_neg (fun e => e h), if_neg hl2]; rfl
    · refine AnsAt.iff (m := ⟨own, []⟩) ?_
      have := M77e (chk2 a b) h 79 [.ptr ⟨0, 2, 0, 1⟩ 0 0, .ptr ⟨0, 3, 0, 1⟩ 0 0] own rfl
      rw [mulS, if_pos h]; exact this
  repeat (first
    | with_reducible first | refine W_seq ?_ | refine W_skip ?_ | refine W_label ?_ | refine W_ret ?_ | refine W_exit ?_ | refine W_block ?_ | refine thenI ?_ | refine thenRet ?_ | refine thenExit ?_ | refine blockRet ?_ | refine blockI ?_ | refine blockExit ?_ | refine blockExitNe rfl ?_
    | (with_reducible refine W_region_k ?_
       intro K hK
       simp (maxSteps := 2000000) (disch := omega) only [SA, ofValue, ofCell, bin, intBin, un, idx, Go.Ev.builtin, calleeOf, V.isNilS, V.depthOk, depth1, V.ok1, V.isAgg, V.cells, isConst, Nat.reduceBEq, Nat.reduceEqDiff, ↓reduceIte, Nat.reduceLeDiff, Nat.reduceAdd, Nat.reduceMul, Nat.reduceSub, Nat.reduceLT, Int.reduceAdd, Int.reduceSub, Int.reduceMul, Int.reduceLT, Int.reduceLE, Int.reduceToNat, Int.reduceNeg, reduceIte, reduceCtorEq, SPx, SAx, h0, h1, hm]
       refine hK _ _ ?_
       clear hK K)
  )
  with_reducible refine W_region_k ?_
  intro K hK
  simp (maxSteps := 2000000) (disch := omega) only [SA, ofValue, ofCell, bin, intBin, un, idx, Go.Ev.builtin, calleeOf, V.isNilS, V.depthOk, depth1, V.ok1, V.isAgg, V.cells, isConst, Nat.reduceBEq, Nat.reduceEqDiff, ↓reduceIte, Nat.reduceLeDiff, Nat.reduceAdd, Nat.reduceMul, Nat.reduceSub, Nat.reduceLT, Int.reduceAdd, Int.reduceSub, Int.reduceMul, Int.reduceLT, Int.reduceLE, Int.reduceToNat, Int.reduceNeg, reduceIte, reduceCtorEq, SPx, SAx, h0, h1, hm, co78, sr78, co77, sr77, (P78 a b).iff]
  rw [key _ _ _ _ rfl (by simp [Mem.row_new, Mem.new_out, Mem.gen_new, Mem.gen_nil]) (by simp [Mem.row_new, Mem.new_out, Mem.gen_new, Mem.gen_nil])]
  simp (maxSteps := 2000000) (disch := omega) only [SA, ofValue, ofCell, bin, intBin, un, idx, Go.Ev.builtin, calleeOf, V.isNilS, V.depthOk, depth1, V.ok1, V.isAgg, V.cells, isConst, Nat.reduceBEq, Nat.reduceEqDiff, ↓reduceIte, Nat.reduceLeDiff, Nat.reduceAdd, Nat.reduceMul, Nat.reduceSub, Nat.reduceLT, Int.reduceAdd, Int.reduceSub, Int.reduceMul, Int.reduceLT, Int.reduceLE, Int.reduceToNat, Int.reduceNeg, reduceIte, reduceCtorEq, SPx, SAx]
  refine hK _ _ ?_
  clear hK K
  repeat (first
    | with_reducible first | refine W_seq ?_ | refine W_skip ?_ | refine W_label ?_ | refine W_ret ?_ | refine W_exit ?_ | refine W_block ?_ | refine thenI ?_ | refine thenRet ?_ | refine thenExit ?_ | refine blockRet ?_ | refine blockI ?_ | refine blockExit ?_ | refine blockExitNe rfl ?_
    | (with_reducible refine W_region_k ?_
       intro K hK
       simp (maxSteps := 2000000) (disch := omega) only [SA, ofValue, ofCell, bin, intBin, un, idx, Go.Ev.builtin, calleeOf, V.isNilS, V.depthOk, depth1, V.ok1, V.isAgg, V.cells, isConst, Nat.reduceBEq, Nat.reduceEqDiff, ↓reduceIte, Nat.reduceLeDiff, Nat.reduceAdd, Nat.reduceMul, Nat.reduceSub, Nat.reduceLT, Int.reduceAdd, Int.reduceSub, Int.reduceMul, Int.reduceLT, Int.reduceLE, Int.reduceToNat, Int.reduceNeg, reduceIte, reduceCtorEq, SPx]
       refine hK _ _ ?_
       clear hK K)
  )
  refine end_ret hd (by simp (maxSteps := 2000000) (disch := omega) only [Tryd.results23, resVars, resVar, SA, ofValue, ofCell, bin, intBin, un, idx, Go.Ev.builtin, calleeOf, V.isNilS, V.depthOk, depth1, V.ok1, V.isAgg, V.cells, isConst, Nat.reduceBEq, Nat.reduceEqDiff, ↓reduceIte, Nat.reduceLeDiff, Nat.reduceAdd, Nat.reduceMul, Nat.reduceSub, Nat.reduceLT, Int.reduceAdd, Int.reduceSub, Int.reduceMul, Int.reduceLT, Int.reduceLE, Int.reduceToNat, Int.reduceNeg, reduceIte, reduceCtorEq, SPx]; rfl) ?_
  simp (maxSteps := 2000000) (disch := omega) only [SA, ofValue, ofCell, bin, intBin, un, idx, Go.Ev.builtin, calleeOf, V.isNilS, V.depthOk, depth1, V.ok1, V.isAgg, V.cells, isConst, Nat.reduceBEq, Nat.reduceEqDiff, ↓reduceIte, Nat.reduceLeDiff, Nat.reduceAdd, Nat.reduceMul, Nat.reduceSub, Nat.reduceLT, Int.reduceAdd, Int.reduceSub, Int.reduceMul, Int.reduceLT, Int.reduceLE, Int.reduceToNat, Int.reduceNeg, reduceIte, reduceCtorEq, true_and, and_true, Nat.zero_add, Nat.le_refl, if_true, ↓reduceIte, resOf, X_own, mv_int, mv_bool, mv_str, mv_sl, mv_nilS, mv_tup, mv2s_nil, mv2s_cons, mv2_int, mv2_bool, mv2_str, mv2_sl, mv2_nilS, Option.map_some, vi, vn, SPx]
end Go.Proofs.YtpocekfifokndaaDoor
namespace Go.Proofs.YtpocekfifokndaaDoor
open Go Go.Ev Go.Pl
set_option maxRecDepth 100000
set_option maxHeartbeats 4000000
theorem P25 (a b : List Int) (hl : a.length < 1000000000000) : Ans X 25 [.sl (ints a), .sl (ints b)] (.ret (.bool (decide (a = b)))) := by
  refine call_of_X (fn := Tryd.f25) 2 Tryd.func25 rfl (by decide +kernel) rfl ?_ ?_ ?_ ?_
  · rfl
  · exact fun _ => rfl
  · intro v hv; injection hv with hv; subst hv; rfl
  intro s hs hd ho
  have h0 : s.t.get 0 = .sl (ints a) := by subst hs; rfl
  have h1 : s.t.get 1 = .sl (ints b) := by subst hs; rfl
  clear hs
  repeat (first
    | with_reducible first | refine W_seq ?_ | refine W_skip ?_ | refine W_label ?_ | refine W_ret ?_ | refine W_exit ?_ | refine W_block ?_ | refine thenI ?_ | refine thenRet ?_ | refine thenExit ?_ | refine blockRet ?_ | refine blockI ?_ | refine blockExit ?_ | refine blockExitNe rfl ?_
    | (with_reducible refine W_region_k ?_
       intro K hK
       simp (maxSteps := 2000000) (disch := omega) only [SA, ofValue, ofCell, bin, intBin, un, idx, Go.Ev.builtin, calleeOf, V.isNilS, V.depthOk, depth1, V.ok1, V.isAgg, V.cells, isConst, Nat.reduceBEq, Nat.reduceEqDiff, ↓reduceIte, Nat.reduceLeDiff, Nat.reduceAdd, Nat.reduceMul, Nat.reduceSub, Nat.reduceLT, Int.reduceAdd, Int.reduceSub, Int.reduceMul, Int.reduceLT, Int.reduceLE, Int.reduceToNat, Int.reduceNeg, reduceIte, reduceCtorEq, SPx, h0, h1, ints_length]
       refine hK _ _ ?_
       clear hK K)
    | (refine W_draw_k (by decide +kernel) ?_
       intro K hK
       simp (maxSteps := 2000000) (disch := omega) only [SA, ofValue, ofCell, bin, intBin, un, idx, Go.Ev.builtin, calleeOf, V.isNilS, V.depthOk, depth1, V.ok1, V.isAgg, V.cells, isConst, Nat.reduceBEq, Nat.reduceEqDiff, ↓reduceIte, Nat.reduceLeDiff, Nat.reduceAdd, Nat.reduceMul, Nat.reduceSub, Nat.reduceLT, Int.reduceAdd, Int.reduceSub, Int.reduceMul, Int.reduceLT, Int.reduceLE, Int.reduceToNat, Int.reduceNeg, reduceIte, reduceCtorEq, SD, SPx, h0, h1, ints_length]
       repeat (refine ⟨by decide +kernel, ?_⟩)
       refine hK _ _ ?_
       clear hK K))
  with_reducible refine W_cond2 (by simp only [SO, ofValue, ofCell, Nat.reduceBEq, Nat.reduceEqDiff, ↓reduceIte]; rfl) (fun h => ?_) (fun h => ?_)
  · have h : a.length ≠ b.length := fun e => by rw [e] at h; simp at h
    repeat (first
      | with_reducible first | refine W_seq ?_ | refine W_skip ?_ | refine W_label ?_ | refine W_ret ?_ | refine W_exit ?_ | refine W_block ?_ | refine thenI ?_ | refine thenRet ?_ | refine thenExit ?_ | refine blockRet ?_ | refine blockI ?_ | refine blockExit ?_ | refine blockExitNe rfl ?_
      | (with_reducible refine W_region_k ?_
         intro K hK
         simp (maxSteps := 2000000) (disch := omega) only [SA, ofValue, ofCell, bin, intBin, un, idx, Go.Ev.builtin, calleeOf, V.isNilS, V.depthOk, depth1, V.ok1, V.isAgg, V.cells, isConst, Nat.reduceBEq, Nat.reduceEqDiff, ↓reduceIte, Nat.reduceLeDiff, Nat.reduceAdd, Nat.reduceMul, Nat.reduceSub, Nat.reduceLT, Int.reduceAdd, Int.reduceSub, Int.reduceMul, Int.reduceLT, Int.reduceLE, Int.reduceToNat, Int.reduceNeg, reduceIte, reduceCtorEq, SPx]
         refine hK _ _ ?_
         clear hK K)
      | (refine W_draw_k (by decide +kernel) ?_
         intro K hK
         simp (maxSteps := 2000000) (disch := omega) only [SA, ofValue, ofCell, bin, intBin, un, idx, Go.Ev.builtin, calleeOf, V.isNilS, V.depthOk, depth1, V.ok1, V.isAgg, V.cells, isConst, Nat.reduceBEq, Nat.reduceEqDiff, ↓reduceIte, Nat.reduceLeDiff, Nat.reduceAdd, Nat.reduceMul, Nat.reduceSub, Nat.reduceLT, Int.reduceAdd, Int.reduceSub, Int.reduceMul, Int.reduceLT, Int.reduceLE, Int.reduceToNat, Int.reduceNeg, reduceIte, reduceCtorEq, SD, SPx]
         repeat (refine ⟨by decide +kernel, ?_⟩)
         refine hK _ _ ?_
         clear hK K))
    refine end_ret hd (by simp (maxSteps := 2000000) (disch := omega) only [Tryd.results25, resVars, resVar, SA, ofValue, ofCell, bin, intBin, un, idx, Go.Ev.builtin, calleeOf, V.isNilS, V.depthOk, depth1, V.ok1, V.isAgg, V.cells, isConst, Nat.reduceBEq, Nat.reduceEqDiff, ↓reduceIte, Nat.reduceLeDiff, Nat.reduceAdd, Nat.reduceMul, Nat.reduceSub, Nat.reduceLT, Int.reduceAdd, Int.reduceSub, Int.reduceMul, Int.reduceLT, Int.reduceLE, Int.reduceToNat, Int.reduceNeg, reduceIte, reduceCtorEq, SPx]; rfl) ?_
    simp (maxSteps := 2000000) (disch := omega) only [SA, ofValue, ofCell, bin, intBin, un, idx, Go.Ev.builtin, calleeOf, V.isNilS, V.depthOk, depth1, V.ok1, V.isAgg, V.cells, isConst, Nat.reduceBEq, Nat.reduceEqDiff, ↓reduceIte, Nat.reduceLeDiff, Nat.reduceAdd, Nat.reduceMul, Nat.reduceSub, Nat.reduceLT, Int.reduceAdd, Int.reduceSub, Int.reduceMul, Int.reduceLT, Int.reduceLE, Int.reduceToNat, Int.reduceNeg, reduceIte, reduceCtorEq, true_and, and_true, Nat.zero_add, Nat.le_refl, if_true, ↓reduceIte, resOf, X_own, mv_int, mv_bool, mv_str, mv_sl, mv_nilS, mv_tup, mv2s_nil, mv2s_cons, mv2_int, mv2_bool, mv2_str, mv2_sl, mv2_nilS, Option.map_some, vi, vn, SPx]
    have : a ≠ b := fun e => h (by rw [e])
    simp [this]
  have hlen : a.length = b.length := by
    have h' : (a.length : Int) = b.length := by simpa using h
    omega
  repeat (first
    | with_reducible first | refine W_seq ?_ | refine W_skip ?_ | refine W_label ?_ | refine W_ret ?_ | refine W_exit ?_ | refine W_block ?_ | refine thenI ?_ | refine thenRet ?_ | refine thenExit ?_ | refine blockRet ?_ | refine blockI ?_ | refine blockExit ?_ | refine blockExitNe rfl ?_
    | (with_reducible refine W_region_k ?_
       intro K hK
       simp (maxSteps := 2000000) (disch := omega) only [SA, ofValue, ofCell, bin, intBin, un, idx, Go.Ev.builtin, calleeOf, V.isNilS, V.depthOk, depth1, V.ok1, V.isAgg, V.cells, isConst, Nat.reduceBEq, Nat.reduceEqDiff, ↓reduceIte, Nat.reduceLeDiff, Nat.reduceAdd, Nat.reduceMul, Nat.reduceSub, Nat.reduceLT, Int.reduceAdd, Int.reduceSub, Int.reduceMul, Int.reduceLT, Int.reduceLE, Int.reduceToNat, Int.reduceNeg, reduceIte, reduceCtorEq, SPx, h0, h1]
       refine hK _ _ ?_
       clear hK K)
    | (refine W_draw_k (by decide +kernel) ?_
       intro K hK
       simp (maxSteps := 2000000) (disch := omega) only [SA, ofValue, ofCell, bin, intBin, un, idx, Go.Ev.builtin, calleeOf, V.isNilS, V.depthOk, depth1, V.ok1, V.isAgg, V.cells, isConst, Nat.reduceBEq, Nat.reduceEqDiff, ↓reduceIte, Nat.reduceLeDiff, Nat.reduceAdd, Nat.reduceMul, Nat.reduceSub, Nat.reduceLT, Int.reduceAdd, Int.reduceSub, Int.reduceMul, Int.reduceLT, Int.reduceLE, Int.reduceToNat, Int.reduceNeg, reduceIte, reduceCtorEq, SD, SPx, h0, h1]
       repeat (refine ⟨by decide +kernel, ?_⟩)
       refine hK _ _ ?_
       clear hK K))
  refine W_loopg (fun (k : Nat) s => s.dfs = [] ∧ s.t.get 0 = .sl (ints a) ∧ s.t.get 1 = .sl (ints b) ∧ s.t.get 5 = vn k ∧ k ≤ a.length ∧ a.take k = b.take k) (fun k => a.length - k) 0 ?_ ?_
  · refine ⟨hd, ?_, ?_, ?_, Nat.zero_le _, rfl⟩
    all_goals (try simp (maxSteps := 2000000) (disch := omega) only [SO, ofValue, ofCell, Nat.reduceBEq, Nat.reduceEqDiff, ↓reduceIte, and_self, and_true, true_and, Mem.newRef_eq, Mem.gen_nil, Mem.gen_new, Mem.gen_set, Mem.row_new, Mem.row_setW, Mem.new_out, Mem.set_out, List.length_nil, List.length_cons, Nat.zero_le, Nat.le_refl, Nat.reduceLeDiff, Nat.reduceAdd, and_self, and_true, true_and, Nat.zero_add, h0, h1])
    rfl
  clear hd h0 h1 ho
  rintro k s ⟨hd, h0, h1, h5, hk, heq⟩
  repeat (first
    | with_reducible first | refine W_seq ?_ | refine W_skip ?_ | refine W_label ?_ | refine W_ret ?_ | refine W_exit ?_ | refine W_block ?_ | refine thenI ?_ | refine thenRet ?_ | refine thenExit ?_ | refine blockRet ?_ | refine blockI ?_ | refine blockExit ?_ | refine blockExitNe rfl ?_
    | (with_reducible refine W_region_k ?_
       intro K hK
       simp (maxSteps := 2000000) (disch := omega) only [SA, ofValue, ofCell, bin, intBin, un, idx, Go.Ev.builtin, calleeOf, V.isNilS, V.depthOk, depth1, V.ok1, V.isAgg, V.cells, isConst, Nat.reduceBEq, Nat.reduceEqDiff, ↓reduceIte, Nat.reduceLeDiff, Nat.reduceAdd, Nat.reduceMul, Nat.reduceSub, Nat.reduceLT, Int.reduceAdd, Int.reduceSub, Int.reduceMul, Int.reduceLT, Int.reduceLE, Int.reduceToNat, Int.reduceNeg, reduceIte, reduceCtorEq, SPx, h0, h1, h5, ints_length]
       refine hK _ _ ?_
       clear hK K)
    | (refine W_draw_k (by decide +kernel) ?_
       intro K hK
       simp (maxSteps := 2000000) (disch := omega) only [SA, ofValue, ofCell, bin, intBin, un, idx, Go.Ev.builtin, calleeOf, V.isNilS, V.depthOk, depth1, V.ok1, V.isAgg, V.cells, isConst, Nat.reduceBEq, Nat.reduceEqDiff, ↓reduceIte, Nat.reduceLeDiff, Nat.reduceAdd, Nat.reduceMul, Nat.reduceSub, Nat.reduceLT, Int.reduceAdd, Int.reduceSub, Int.reduceMul, Int.reduceLT, Int.reduceLE, Int.reduceToNat, Int.reduceNeg, reduceIte, reduceCtorEq, SD, SPx, h0, h1, h5, ints_length]
       repeat (refine ⟨by decide +kernel, ?_⟩)
       refine hK _ _ ?_
       clear hK K))
  with_reducible refine W_cond2 (by simp only [SO, ofValue, ofCell, Nat.reduceBEq, Nat.reduceEqDiff, ↓reduceIte]; rfl) (fun h => ?_) (fun h => ?_)
  · have h := of_decide_eq_true h
    have hk : k < a.length := by omega
    obtain ⟨d, hdk⟩ : ∃ d, a[k]? = some d := ⟨a[k], by simp⟩
    obtain ⟨e, hek⟩ : ∃ e, b[k]? = some e := ⟨b[k], by simp⟩
    repeat (first
      | with_reducible first | refine W_seq ?_ | refine W_skip ?_ | refine W_label ?_ | refine W_ret ?_ | refine W_exit ?_ | refine W_block ?_ | refine thenI ?_ | refine thenRet ?_ | refine thenExit ?_ | refine blockRet ?_ | refine blockI ?_ | refine blockExit ?_ | refine blockExitNe rfl ?_
      | (with_reducible refine W_region_k ?_
         intro K hK
         simp (maxSteps := 2000000) (disch := omega) only [SA, ofValue, ofCell, bin, intBin, un, idx, Go.Ev.builtin, calleeOf, V.isNilS, V.depthOk, depth1, V.ok1, V.isAgg, V.cells, isConst, Nat.reduceBEq, Nat.reduceEqDiff, ↓reduceIte, Nat.reduceLeDiff, Nat.reduceAdd, Nat.reduceMul, Nat.reduceSub, Nat.reduceLT, Int.reduceAdd, Int.reduceSub, Int.reduceMul, Int.reduceLT, Int.reduceLE, Int.reduceToNat, Int.reduceNeg, reduceIte, reduceCtorEq, SPx, h0, h1, h5, ints_get?, hdk, hek]
         refine hK _ _ ?_
         clear hK K)
      | (refine W_draw_k (by decide +kernel) ?_
         intro K hK
         simp (maxSteps := 2000000) (disch := omega) only [SA, ofValue, ofCell, bin, intBin, un, idx, Go.Ev.builtin, calleeOf, V.isNilS, V.depthOk, depth1, V.ok1, V.isAgg, V.cells, isConst, Nat.reduceBEq, Nat.reduceEqDiff, ↓reduceIte, Nat.reduceLeDiff, Nat.reduceAdd, Nat.reduceMul, Nat.reduceSub, Nat.reduceLT, Int.reduceAdd, Int.reduceSub, Int.reduceMul, Int.reduceLT, Int.reduceLE, Int.reduceToNat, Int.reduceNeg, reduceIte, reduceCtorEq, SD, SPx, h0, h1, h5, ints_get?, hdk, hek]
         repeat (refine ⟨by decide +kernel, ?_⟩)
         refine hK _ _ ?_
         clear hK K))
    with_reducible refine W_cond2 (by simp only [SO, ofValue, ofCell, Nat.reduceBEq, Nat.reduceEqDiff, ↓reduceIte]; rfl) (fun h => ?_) (fun h => ?_)
    · have h : d ≠ e := by simpa using h
      repeat (first
        | with_reducible first | refine W_seq ?_ | refine W_skip ?_ | refine W_label ?_ | refine W_ret ?_ | refine W_exit ?_ | refine W_block ?_ | refine thenI ?_ | refine thenRet ?_ | refine thenExit ?_ | refine blockRet ?_ | refine blockI ?_ | refine blockExit ?_ | refine blockExitNe rfl ?_
        | (with_reducible refine W_region_k ?_
           intro K hK
           simp (maxSteps := 2000000) (disch := omega) only [SA, ofValue, ofCell, bin, intBin, un, idx, Go.Ev.builtin, calleeOf, V.isNilS, V.depthOk, depth1, V.ok1, V.isAgg, V.cells, isConst, Nat.reduceBEq, Nat.reduceEqDiff, ↓reduceIte, Nat.reduceLeDiff, Nat.reduceAdd, Nat.reduceMul, Nat.reduceSub, Nat.reduceLT, Int.reduceAdd, Int.reduceSub, Int.reduceMul, Int.reduceLT, Int.reduceLE, Int.reduceToNat, Int.reduceNeg, reduceIte, reduceCtorEq, SPx]
           refine hK _ _ ?_
           clear hK K)
        | (refine W_draw_k (by decide +kernel) ?_
           intro K hK
           simp (maxSteps := 2000000) (disch := omega) only [SA, ofValue, ofCell, bin, intBin, un, idx, Go.Ev.builtin, calleeOf, V.isNilS, V.depthOk, depth1, V.ok1, V.isAgg, V.cells, isConst, Nat.reduceBEq, Nat.reduceEqDiff, ↓reduceIte, Nat.reduceLeDiff, Nat.reduceAdd, Nat.reduceMul, Nat.reduceSub, Nat.reduceLT, Int.reduceAdd, Int.reduceSub, Int.reduceMul, Int.reduceLT, Int.reduceLE, Int.reduceToNat, Int.reduceNeg, reduceIte, reduceCtorEq, SD, SPx]
           repeat (refine ⟨by decide +kernel, ?_⟩)
           refine hK _ _ ?_
           clear hK K))
      refine end_ret hd (by simp (maxSteps := 2000000) (disch := omega) only [Tryd.results25, resVars, resVar, SA, ofValue, ofCell, bin, intBin, un, idx, Go.Ev.builtin, calleeOf, V.isNilS, V.depthOk, depth1, V.ok1, V.isAgg, V.cells, isConst, Nat.reduceBEq, Nat.reduceEqDiff, ↓reduceIte, Nat.reduceLeDiff, Nat.reduceAdd, Nat.reduceMul, Nat.reduceSub, Nat.reduceLT, Int.reduceAdd, Int.reduceSub, Int.reduceMul, Int.reduceLT, Int.reduceLE, Int.reduceToNat, Int.reduceNeg, reduceIte, reduceCtorEq, SPx]; rfl) ?_
      simp (maxSteps := 2000000) (disch := omega) only [SA, ofValue, ofCell, bin, intBin, un, idx, Go.Ev.builtin, calleeOf, V.isNilS, V.depthOk, depth1, V.ok1, V.isAgg, V.cells, isConst, Nat.reduceBEq, Nat.reduceEqDiff, ↓reduceIte, Nat.reduceLeDiff, Nat.reduceAdd, Nat.reduceMul, Nat.reduceSub, Nat.reduceLT, Int.reduceAdd, Int.reduceSub, Int.reduceMul, Int.reduceLT, Int.reduceLE, Int.reduceToNat, Int.reduceNeg, reduceIte, reduceCtorEq, true_and, and_true, Nat.zero_add, Nat.le_refl, if_true, ↓reduceIte, resOf, X_own, mv_int, mv_bool, mv_str, mv_sl, mv_nilS, mv_tup, mv2s_nil, mv2s_cons, mv2_int, mv2_bool, mv2_str, mv2_sl, mv2_nilS, Option.map_some, vi, vn, SPx]
      have : a ≠ b := fun e' => h (by rw [e'] at hdk; rw [hdk] at hek; exact Option.some.inj hek)
      simp [this]
    · have h : d = e := by simpa using h
      repeat (first
        | with_reducible first | refine W_seq ?_ | refine W_skip ?_ | refine W_label ?_ | refine W_ret ?_ | refine W_exit ?_ | refine W_block ?_ | refine thenI ?_ | refine thenRet ?_ | refine thenExit ?_ | refine blockRet ?_ | refine blockI ?_ | refine blockExit ?_ | refine blockExitNe rfl ?_
        | (with_reducible refine W_region_k ?_
           intro K hK
           simp (maxSteps := 2000000) (disch := omega) only [SA, ofValue, ofCell, bin, intBin, un, idx, Go.Ev.builtin, calleeOf, V.isNilS, V.depthOk, depth1, V.ok1, V.isAgg, V.cells, isConst, Nat.reduceBEq, Nat.reduceEqDiff, ↓reduceIte, Nat.reduceLeDiff, Nat.reduceAdd, Nat.reduceMul, Nat.reduceSub, Nat.reduceLT, Int.reduceAdd, Int.reduceSub, Int.reduceMul, Int.reduceLT, Int.reduceLE, Int.reduceToNat, Int.reduceNeg, reduceIte, reduceCtorEq, SPx, SCx, Int.reduceEq, h0, h1, h5]
           refine hK _ _ ?_
           clear hK K)
        | (refine W_draw_k (by decide +kernel) ?_
           intro K hK
           simp (maxSteps := 2000000) (disch := omega) only [SA, ofValue, ofCell, bin, intBin, un, idx, Go.Ev.builtin, calleeOf, V.isNilS, V.depthOk, depth1, V.ok1, V.isAgg, V.cells, isConst, Nat.reduceBEq, Nat.reduceEqDiff, ↓reduceIte, Nat.reduceLeDiff, Nat.reduceAdd, Nat.reduceMul, Nat.reduceSub, Nat.reduceLT, Int.reduceAdd, Int.reduceSub, Int.reduceMul, Int.reduceLT, Int.reduceLE, Int.reduceToNat, Int.reduceNeg, reduceIte, reduceCtorEq, SD, SPx, SCx, Int.reduceEq, h0, h1, h5]
           repeat (refine ⟨by decide +kernel, ?_⟩)
           refine hK _ _ ?_
           clear hK K))
      refine ⟨k + 1, ⟨hd, ?_, ?_, ?_, by omega, ?_⟩, by omega⟩
      all_goals (try simp (maxSteps := 2000000) (disch := omega) only [SO, ofValue, ofCell, Nat.reduceBEq, Nat.reduceEqDiff, ↓reduceIte, and_self, and_true, true_and, Mem.newRef_eq, Mem.gen_nil, Mem.gen_new, Mem.gen_set, Mem.row_new, Mem.row_setW, Mem.new_out, Mem.set_out, List.length_nil, List.length_cons, Nat.zero_le, Nat.le_refl, Nat.reduceLeDiff, Nat.reduceAdd, and_self, and_true, true_and, Nat.zero_add, h0, h1])
      rw [List.take_add_one, List.take_add_one, heq, hdk, hek, h]
  · have h := of_decide_eq_false h
    obtain rfl : k = a.length := by omega
    repeat (first
      | with_reducible first | refine W_seq ?_ | refine W_skip ?_ | refine W_label ?_ | refine W_ret ?_ | refine W_exit ?_ | refine W_block ?_ | refine thenI ?_ | refine thenRet ?_ | refine thenExit ?_ | refine blockRet ?_ | refine blockI ?_ | refine blockExit ?_ | refine blockExitNe rfl ?_
      | (with_reducible refine W_region_k ?_
         intro K hK
         simp (maxSteps := 2000000) (disch := omega) only [SA, ofValue, ofCell, bin, intBin, un, idx, Go.Ev.builtin, calleeOf, V.isNilS, V.depthOk, depth1, V.ok1, V.isAgg, V.cells, isConst, Nat.reduceBEq, Nat.reduceEqDiff, ↓reduceIte, Nat.reduceLeDiff, Nat.reduceAdd, Nat.reduceMul, Nat.reduceSub, Nat.reduceLT, Int.reduceAdd, Int.reduceSub, Int.reduceMul, Int.reduceLT, Int.reduceLE, Int.reduceToNat, Int.reduceNeg, reduceIte, reduceCtorEq, SPx]
         refine hK _ _ ?_
         clear hK K)
      | (refine W_draw_k (by decide +kernel) ?_
         intro K hK
         simp (maxSteps := 2000000) (disch := omega) only [SA, ofValue, ofCell, bin, intBin, un, idx, Go.Ev.builtin, calleeOf, V.isNilS, V.depthOk, depth1, V.ok1, V.isAgg, V.cells, isConst, Nat.reduceBEq, Nat.reduceEqDiff, ↓reduceIte, Nat.reduceLeDiff, Nat.reduceAdd, Nat.reduceMul, Nat.reduceSub, Nat.reduceLT, Int.reduceAdd, Int.reduceSub, Int.reduceMul, Int.reduceLT, Int.reduceLE, Int.reduceToNat, Int.reduceNeg, reduceIte, reduceCtorEq, SD, SPx]
         repeat (refine ⟨by decide +kernel, ?_⟩)
         refine hK _ _ ?_
         clear hK K))
    refine end_ret hd (by simp (maxSteps := 2000000) (disch := omega) only [Tryd.results25, resVars, resVar, SA, ofValue, ofCell, bin, intBin, un, idx, Go.Ev.builtin, calleeOf, V.isNilS, V.depthOk, depth1, V.ok1, V.isAgg, V.cells, isConst, Nat.reduceBEq, Nat.reduceEqDiff, ↓reduceIte, Nat.reduceLeDiff, Nat.reduceAdd, Nat.reduceMul, Nat.reduceSub, Nat.reduceLT, Int.reduceAdd, Int.reduceSub, Int.reduceMul, Int.reduceLT, Int.reduceLE, Int.reduceToNat, Int.reduceNeg, reduceIte, reduceCtorEq, SPx]; rfl) ?_
    simp (maxSteps := 2000000) (disch := omega) only [SA, ofValue, ofCell, bin, intBin, un, idx, Go.Ev.builtin, calleeOf, V.isNilS, V.depthOk, depth1, V.ok1, V.isAgg, V.cells, isConst, Nat.reduceBEq, Nat.reduceEqDiff, ↓reduceIte, Nat.reduceLeDiff, Nat.reduceAdd, Nat.reduceMul, Nat.reduceSub, Nat.reduceLT, Int.reduceAdd, Int.reduceSub, Int.reduceMul, Int.reduceLT, Int.reduceLE, Int.reduceToNat, Int.reduceNeg, reduceIte, reduceCtorEq, true_and, and_true, Nat.zero_add, Nat.le_refl, if_true, ↓reduceIte, resOf, X_own, mv_int, mv_bool, mv_str, mv_sl, mv_nilS, mv_tup, mv2s_nil, mv2s_cons, mv2_int, mv2_bool, mv2_str, mv2_sl, mv2_nilS, Option.map_some, vi, vn, SPx]
    have : a = b := by rw [List.take_length] at heq; rw [heq, hlen, List.take_length]
    simp [this]
end Go.Proofs.YtpocekfifokndaaDoor
namespace Go.Proofs.YtpocekfifokndaaDoor
open Go Go.Ev Go.Pl
set_option maxRecDepth 100000
set_option maxHeartbeats 4000000
theorem P29 (a b : List Int) (e : Int) (hl : a.length < 1000000000000) : Ans X 29 [.sl (ints a), vi e, .sl (ints b)] (.ret (.bool (decide (e = 0 ∧ a = b)))) := by
  refine call_of_X (fn := Tryd.f29) 3 Tryd.func29 rfl (by decide +kernel) rfl ?_ ?_ ?_ ?_
  · rfl
  · exact fun _ => rfl
  · intro v hv; injection hv with hv; subst hv; rfl
  intro s hs hd ho
  have h0 : s.t.get 0 = .sl (ints a) := by subst hs; rfl
  have h1 : s.t.get 1 = vi e := by subst hs; rfl
  have h2 : s.t.get 2 = .sl (ints b) := by subst hs; rfl
  clear hs
  by_cases he : e = 0
  · subst he
    repeat (first
      | with_reducible first | refine W_seq ?_ | refine W_skip ?_ | refine W_label ?_ | refine W_ret ?_ | refine W_exit ?_ | refine W_block ?_ | refine thenI ?_ | refine thenRet ?_ | refine thenExit ?_ | refine blockRet ?_ | refine blockI ?_ | refine blockExit ?_ | refine blockExitNe rfl ?_
      | (with_reducible refine W_region_k ?_
         intro K hK
         simp (maxSteps := 2000000) (disch := omega) only [SA, ofValue, ofCell, bin, intBin, un, idx, Go.Ev.builtin, calleeOf, V.isNilS, V.depthOk, depth1, V.ok1, V.isAgg, V.cells, isConst, Nat.reduceBEq, Nat.reduceEqDiff, ↓reduceIte, Nat.reduceLeDiff, Nat.reduceAdd, Nat.reduceMul, Nat.reduceSub, Nat.reduceLT, Int.reduceAdd, Int.reduceSub, Int.reduceMul, Int.reduceLT, Int.reduceLE, Int.reduceToNat, Int.reduceNeg, reduceIte, reduceCtorEq, SPx, h0, h1, h2, co25, sr25, (P25 a b hl).iff]
         refine hK _ _ ?_
         clear hK K)
    )
    refine end_ret hd (by simp (maxSteps := 2000000) (disch := omega) only [Tryd.results29, resVars, resVar, SA, ofValue, ofCell, bin, intBin, un, idx, Go.Ev.builtin, calleeOf, V.isNilS, V.depthOk, depth1, V.ok1, V.isAgg, V.cells, isConst, Nat.reduceBEq, Nat.reduceEqDiff, ↓reduceIte, Nat.reduceLeDiff, Nat.reduceAdd, Nat.reduceMul, Nat.reduceSub, Nat.reduceLT, Int.reduceAdd, Int.reduceSub, Int.reduceMul, Int.reduceLT, Int.reduceLE, Int.reduceToNat, Int.reduceNeg, reduceIte, reduceCtorEq, SPx]; rfl) ?_
    simp (maxSteps := 2000000) (disch := omega) only [SA, ofValue, ofCell, bin, intBin, un, idx, Go.Ev.builtin, calleeOf, V.isNilS, V.depthOk, depth1, V.ok1, V.isAgg, V.cells, isConst, Nat.reduceBEq, Nat.reduceEqDiff, ↓reduceIte, Nat.reduceLeDiff, Nat.reduceAdd, Nat.reduceMul, Nat.reduceSub, Nat.reduceLT, Int.reduceAdd, Int.reduceSub, Int.reduceMul, Int.reduceLT, Int.reduceLE, Int.reduceToNat, Int.reduceNeg, reduceIte, reduceCtorEq, true_and, and_true, Nat.zero_add, Nat.le_refl, if_true, ↓reduceIte, resOf, X_own, mv_int, mv_bool, mv_str, mv_sl, mv_nilS, mv_tup, mv2s_nil, mv2s_cons, mv2_int, mv2_bool, mv2_str, mv2_sl, mv2_nilS, Option.map_some, vi, vn, SPx]
  · repeat (first
      | with_reducible first | refine W_seq ?_ | refine W_skip ?_ | refine W_label ?_ | refine W_ret ?_ | refine W_exit ?_ | refine W_block ?_ | refine thenI ?_ | refine thenRet ?_ | refine thenExit ?_ | refine blockRet ?_ | refine blockI ?_ | refine blockExit ?_ | refine blockExitNe rfl ?_
      | (with_reducible refine W_region_k ?_
         intro K hK
         simp (maxSteps := 2000000) (disch := omega) only [SA, ofValue, ofCell, bin, intBin, un, idx, Go.Ev.builtin, calleeOf, V.isNilS, V.depthOk, depth1, V.ok1, V.isAgg, V.cells, isConst, Nat.reduceBEq, Nat.reduceEqDiff, ↓reduceIte, Nat.reduceLeDiff, Nat.reduceAdd, Nat.reduceMul, Nat.reduceSub, Nat.reduceLT, Int.reduceAdd, Int.reduceSub, Int.reduceMul, Int.reduceLT, Int.reduceLE, Int.reduceToNat, Int.reduceNeg, reduceIte, reduceCtorEq, SPx, h0, h1, h2, beq_eq_false_iff_ne.2 he]
         refine hK _ _ ?_
         clear hK K)
    )
    refine end_ret hd (by simp (maxSteps := 2000000) (disch := omega) only [Tryd.results29, resVars, resVar, SA, ofValue, ofCell, bin, intBin, un, idx, Go.Ev.builtin, calleeOf, V.isNilS, V.depthOk, depth1, V.ok1, V.isAgg, V.cells, isConst, Nat.reduceBEq, Nat.reduceEqDiff, ↓reduceIte, Nat.reduceLeDiff, Nat.reduceAdd, Nat.reduceMul, Nat.reduceSub, Nat.reduceLT, Int.reduceAdd, Int.reduceSub, Int.reduceMul, Int.reduceLT, Int.reduceLE, Int.reduceToNat, Int.reduceNeg, reduceIte, reduceCtorEq, SPx, he]; rfl) ?_
    simp (maxSteps := 2000000) (disch := omega) only [SA, ofValue, ofCell, bin, intBin, un, idx, Go.Ev.builtin, calleeOf, V.isNilS, V.depthOk, depth1, V.ok1, V.isAgg, V.cells, isConst, Nat.reduceBEq, Nat.reduceEqDiff, ↓reduceIte, Nat.reduceLeDiff, Nat.reduceAdd, Nat.reduceMul, Nat.reduceSub, Nat.reduceLT, Int.reduceAdd, Int.reduceSub, Int.reduceMul, Int.reduceLT, Int.reduceLE, Int.reduceToNat, Int.reduceNeg, reduceIte, reduceCtorEq, true_and, and_true, Nat.zero_add, Nat.le_refl, if_true, ↓reduceIte, resOf, X_own, mv_int, mv_bool, mv_str, mv_sl, mv_nilS, mv_tup, mv2s_nil, mv2s_cons, mv2_int, mv2_bool, mv2_str, mv2_sl, mv2_nilS, Option.map_some, vi, vn, SPx, he]
end Go.Proofs.YtpocekfifokndaaDoor
namespace Go.Proofs.YtpocekfifokndaaDoor
open Go Go.Ev Go.Pl
set_option maxRecDepth 100000
set_option maxHeartbeats 4000000
theorem P88 (n : Nat) (hn : n < 9000000000000000000) : Ans X 88 [vn n] (.ret (wv (n * 60 ^ 72))) := by
  refine call_of_X (fn := Tryd.f88) 1 Tryd.func88 rfl (by decide +kernel) rfl ?_ ?_ ?_ ?_
  · rfl
  · intro h; exact absurd h (by rw [show scalarRes Tryd.prog 88 = false by kernel_rfl]; decide)
  · intro v hv; injection hv with hv; subst hv; exact wv_still _
  intro s hs hd ho
  have hm : s.m = ⟨.nil, []⟩ := by subst hs; rfl
  have h0 : s.t.get 0 = vn n := by subst hs; rfl
  clear hs
  repeat (first
    | with_reducible first | refine W_seq ?_ | refine W_skip ?_ | refine W_label ?_ | refine W_ret ?_ | refine W_exit ?_ | refine W_block ?_ | refine thenI ?_ | refine thenRet ?_ | refine thenExit ?_ | refine blockRet ?_ | refine blockI ?_ | refine blockExit ?_ | refine blockExitNe rfl ?_
    | (with_reducible refine W_region_k ?_
       intro K hK
       simp (maxSteps := 2000000) (disch := omega) only [SA, ofValue, ofCell, bin, intBin, un, idx, Go.Ev.builtin, calleeOf, V.isNilS, V.depthOk, depth1, V.ok1, V.isAgg, V.cells, isConst, Nat.reduceBEq, Nat.reduceEqDiff, ↓reduceIte, Nat.reduceLeDiff, Nat.reduceAdd, Nat.reduceMul, Nat.reduceSub, Nat.reduceLT, Int.reduceAdd, Int.reduceSub, Int.reduceMul, Int.reduceLT, Int.reduceLE, Int.reduceToNat, Int.reduceNeg, reduceIte, reduceCtorEq, SPx, SWx, h0, hm]
       refine hK _ _ ?_
       clear hK K)
  )
  refine W_loopg (fun (k : Nat) s => s.dfs = [] ∧ s.m.out.length = 0 ∧ s.t.get 0 = vn (n / 60 ^ k) ∧ s.t.get 2 = .ptr ⟨0, 2, 0, 1⟩ 0 0 ∧ s.t.get 3 = .ptr ⟨0, 3, 0, 1⟩ 0 0 ∧
    s.t.get 4 = vn (72 + k) ∧
    s.m.row ⟨0, 3, 0, 1⟩ = some ⟨1, 100, false, false, [.agg (wc fun j => if j < 72 + k then dig (n * 60 ^ 72) j else 0)]⟩ ∧
    s.m.row ⟨0, 2, 0, 1⟩ = some ⟨1, 100, false, false, [.agg (wc fun _ => 0)]⟩ ∧ k ≤ 12) (fun k => 12 - k) 0 ?_ ?_
  · refine ⟨hd, ?_, ?_, ?_, ?_, ?_, ?_, ?_, Nat.zero_le _⟩
    all_goals (try simp (maxSteps := 2000000) (disch := omega) only [SO, ofValue, ofCell, Nat.reduceBEq, Nat.reduceEqDiff, ↓reduceIte, and_self, and_true, true_and, Mem.newRef_eq, Mem.gen_nil, Mem.gen_new, Mem.gen_set, Mem.row_new, Mem.row_setW, Mem.new_out, Mem.set_out, List.length_nil, List.length_cons, Nat.zero_le, Nat.le_refl, Nat.reduceLeDiff, Nat.reduceAdd, and_self, and_true, true_and, Nat.zero_add, SWx, h0, hm])
    · simp
    · rfl
    · refine wrow fun j _ => ?_
      split
      · rw [dig_shift, if_pos (by omega)]
      · rfl
  clear hd h0 ho hm
  rintro k s ⟨hd, ho, h0, h2, h3, h4, r3, r2, hk⟩
  repeat (first
    | with_reducible first | refine W_seq ?_ | refine W_skip ?_ | refine W_label ?_ | refine W_ret ?_ | refine W_exit ?_ | refine W_block ?_ | refine thenI ?_ | refine thenRet ?_ | refine thenExit ?_ | refine blockRet ?_ | refine blockI ?_ | refine blockExit ?_ | refine blockExitNe rfl ?_
    | (with_reducible refine W_region_k ?_
       intro K hK
       simp (maxSteps := 2000000) (disch := omega) only [SA, ofValue, ofCell, bin, intBin, un, idx, Go.Ev.builtin, calleeOf, V.isNilS, V.depthOk, depth1, V.ok1, V.isAgg, V.cells, isConst, Nat.reduceBEq, Nat.reduceEqDiff, ↓reduceIte, Nat.reduceLeDiff, Nat.reduceAdd, Nat.reduceMul, Nat.reduceSub, Nat.reduceLT, Int.reduceAdd, Int.reduceSub, Int.reduceMul, Int.reduceLT, Int.reduceLE, Int.reduceToNat, Int.reduceNeg, reduceIte, reduceCtorEq, SPx, SWx, h0, h2, h3, h4, r3, r2, ho]
       refine hK _ _ ?_
       clear hK K)
  )
  with_reducible refine W_cond2 (by simp only [SO, ofValue, ofCell, Nat.reduceBEq, Nat.reduceEqDiff, ↓reduceIte]; rfl) (fun h => ?_) (fun h => ?_)
  · have h := of_decide_eq_true h
    have hk : k < 12 := by
      rcases Nat.lt_or_ge k 12 with h' | h'
      · exact h'
      · have h1 : n < 60 ^ k := Nat.lt_of_lt_of_le (by omega) (Nat.pow_le_pow_right (by decide) h')
        rw [Nat.div_eq_of_lt h1] at h
        exact absurd h (by decide)
    have hb : n / 60 ^ k < 9000000000000000000 := Nat.lt_of_le_of_lt (Nat.div_le_self _ _) hn
    have hk2 : 72 + k < 168 := by omega
    have t1 : n / 60 ^ k % 60 = dig (n * 60 ^ 72) (72 + k) := by rw [dig_shift, if_neg (by omega), Nat.add_sub_cancel_left, dig]
    have t2 : n / 60 ^ k / 60 = n / 60 ^ (k + 1) := by rw [Nat.div_div_eq_div_mul, ← Nat.pow_succ]
    have hb2 : n / 60 ^ (k + 1) < 9000000000000000000 := Nat.lt_of_le_of_lt (Nat.div_le_self _ _) hn
    repeat (first
      | with_reducible first | refine W_seq ?_ | refine W_skip ?_ | refine W_label ?_ | refine W_ret ?_ | refine W_exit ?_ | refine W_block ?_ | refine thenI ?_ | refine thenRet ?_ | refine thenExit ?_ | refine blockRet ?_ | refine blockI ?_ | refine blockExit ?_ | refine blockExitNe rfl ?_
      | (with_reducible refine W_region_k ?_
         intro K hK
         simp (maxSteps := 2000000) (disch := omega) only [SA, ofValue, ofCell, bin, intBin, un, idx, Go.Ev.builtin, calleeOf, V.isNilS, V.depthOk, depth1, V.ok1, V.isAgg, V.cells, isConst, Nat.reduceBEq, Nat.reduceEqDiff, ↓reduceIte, Nat.reduceLeDiff, Nat.reduceAdd, Nat.reduceMul, Nat.reduceSub, Nat.reduceLT, Int.reduceAdd, Int.reduceSub, Int.reduceMul, Int.reduceLT, Int.reduceLE, Int.reduceToNat, Int.reduceNeg, reduceIte, reduceCtorEq, SPx, SWx, SCx, Int.reduceEq, h0, h2, h3, h4, r3, r2, ho, hk2, t1, t2]
         refine hK _ _ ?_
         clear hK K)
    )
    refine ⟨k + 1, ⟨hd, ?_, ?_, ?_, ?_, ?_, ?_, ?_, by omega⟩, by omega⟩
    all_goals (try simp (maxSteps := 2000000) (disch := omega) only [SO, ofValue, ofCell, Nat.reduceBEq, Nat.reduceEqDiff, ↓reduceIte, and_self, and_true, true_and, Mem.newRef_eq, Mem.gen_nil, Mem.gen_new, Mem.gen_set, Mem.row_new, Mem.row_setW, Mem.new_out, Mem.set_out, List.length_nil, List.length_cons, Nat.zero_le, Nat.le_refl, Nat.reduceLeDiff, Nat.reduceAdd, and_self, and_true, true_and, Nat.zero_add, SWx, h2, h3, r3, r2, ho, t1, t2])
    · rfl
    · refine wrow fun j _ => ?_
      by_cases e : j = 72 + k
      · subst e; rw [if_pos rfl, if_pos (by omega)]
      · rw [if_neg e]
        by_cases e' : j < 72 + k
        · rw [if_pos e', if_pos (by omega)]
        · rw [if_neg e', if_neg (by omega)]
  · have h := of_decide_eq_false h
    have hz : n / 60 ^ k = 0 := (show ∀ q : Nat, ¬ ((q : Int) > 0) → q = 0 from fun q h => by omega) _ h
    have r3' : s.m.row ⟨0, 3, 0, 1⟩ = some ⟨1, 100, false, false, [.agg (wc (dig (n * 60 ^ 72)))]⟩ := by
      rw [r3]
      refine wrow fun j hj => ?_
      split
      · rfl
      · rw [dig_shift, if_neg (by omega)]
        have h1 : n < 60 ^ k := by
          rcases Nat.lt_or_ge n (60 ^ k) with h' | h'
          · exact h'
          · have := Nat.div_pos h' (pow_pos k); omega
        exact (dig_of_lt (lt_pow_mono h1 (by omega))).symm
    clear r3
    repeat (first
      | with_reducible first | refine W_seq ?_ | refine W_skip ?_ | refine W_label ?_ | refine W_ret ?_ | refine W_exit ?_ | refine W_block ?_ | refine thenI ?_ | refine thenRet ?_ | refine thenExit ?_ | refine blockRet ?_ | refine blockI ?_ | refine blockExit ?_ | refine blockExitNe rfl ?_
      | (with_reducible refine W_region_k ?_
         intro K hK
         simp (maxSteps := 2000000) (disch := omega) only [SA, ofValue, ofCell, bin, intBin, un, idx, Go.Ev.builtin, calleeOf, V.isNilS, V.depthOk, depth1, V.ok1, V.isAgg, V.cells, isConst, Nat.reduceBEq, Nat.reduceEqDiff, ↓reduceIte, Nat.reduceLeDiff, Nat.reduceAdd, Nat.reduceMul, Nat.reduceSub, Nat.reduceLT, Int.reduceAdd, Int.reduceSub, Int.reduceMul, Int.reduceLT, Int.reduceLE, Int.reduceToNat, Int.reduceNeg, reduceIte, reduceCtorEq, SPx, SWx, h2, h3, r3', r2, ho]
         refine hK _ _ ?_
         clear hK K)
    )
    refine end_ret hd (by simp (maxSteps := 2000000) (disch := omega) only [Tryd.results88, resVars, resVar, SA, ofValue, ofCell, bin, intBin, un, idx, Go.Ev.builtin, calleeOf, V.isNilS, V.depthOk, depth1, V.ok1, V.isAgg, V.cells, isConst, Nat.reduceBEq, Nat.reduceEqDiff, ↓reduceIte, Nat.reduceLeDiff, Nat.reduceAdd, Nat.reduceMul, Nat.reduceSub, Nat.reduceLT, Int.reduceAdd, Int.reduceSub, Int.reduceMul, Int.reduceLT, Int.reduceLE, Int.reduceToNat, Int.reduceNeg, reduceIte, reduceCtorEq, SPx, SWx, h2, h3, r3', r2, ho]; rfl) ?_
    simp (maxSteps := 2000000) (disch := omega) only [SA, ofValue, ofCell, bin, intBin, un, idx, Go.Ev.builtin, calleeOf, V.isNilS, V.depthOk, depth1, V.ok1, V.isAgg, V.cells, isConst, Nat.reduceBEq, Nat.reduceEqDiff, ↓reduceIte, Nat.reduceLeDiff, Nat.reduceAdd, Nat.reduceMul, Nat.reduceSub, Nat.reduceLT, Int.reduceAdd, Int.reduceSub, Int.reduceMul, Int.reduceLT, Int.reduceLE, Int.reduceToNat, Int.reduceNeg, reduceIte, reduceCtorEq, true_and, and_true, Nat.zero_add, Nat.le_refl, if_true, ↓reduceIte, resOf, X_own, mv_int, mv_bool, mv_str, mv_sl, mv_nilS, mv_tup, mv2s_nil, mv2s_cons, mv2_int, mv2_bool, mv2_str, mv2_sl, mv2_nilS, Option.map_some, vi, vn, SPx, SWx, h2, h3, r3', r2, ho]
end Go.Proofs.YtpocekfifokndaaDoor
namespace Go.Proofs.YtpocekfifokndaaDoor
open Go Go.Ev Go.Pl
set_option maxRecDepth 100000
set_option maxHeartbeats 4000000
def invK (i j k : Nat) : Nat := max (max ((i + 1) / 2) j) k
def invW (i j k : Nat) : Nat := 2 ^ (2 * invK i j k - i) * 3 ^ (invK i j k - j) * 5 ^ (invK i j k - k)
def max3 (a b c : Nat) : Nat := max (max a b) c
theorem max_cast (a b c : Nat) : (if (c : Int) > (if (b : Int) > (a : Int) then (b : Int) else (a : Int)) then (c : Int) else (if (b : Int) > (a : Int) then (b : Int) else (a : Int))) = ((max3 a b c : Nat) : Int) := by
  simp only [max3, Nat.max_def]
  split <;> split <;> split <;> split <;> omega
def pB (l : Nat) : Nat := if l = 0 then 2 else if l = 1 then 3 else 5
def pX (x y z : Nat) (l : Nat) : Nat := if l = 0 then x else if l = 1 then y else z
def pW (x y z : Nat) : Nat → Nat
  | 0 => 1
  | l + 1 => pW x y z l * pB l ^ pX x y z l
theorem pB_pos (l : Nat) : 0 < pB l ∧ pB l ≤ 5 := by unfold pB; split <;> (try split) <;> decide
theorem pW_pos (x y z : Nat) : ∀ l, 0 < pW x y z l
  | 0 => Nat.one_pos
  | l + 1 => Nat.mul_pos (pW_pos x y z l) (Nat.pow_pos (pB_pos l).1)
theorem pW_mono (x y z : Nat) {l n : Nat} (h : l ≤ n) : pW x y z l ≤ pW x y z n := by
  induction h with
  | refl => exact Nat.le_refl _
  | step _ ih => exact Nat.le_trans ih (Nat.le_mul_of_pos_right _ (Nat.pow_pos (pB_pos _).1))
theorem pW_three (x y z : Nat) : pW x y z 3 = 2 ^ x * 3 ^ y * 5 ^ z := by simp [pW, pB, pX]
theorem P90 (i j k : Nat) (hi : i < 200) (hj : j < 200) (hk : k < 200) (hb : invW i j k < 60 ^ 90) : Ans X 90 [vn i, vn j, vn k] (.ret (.tup [wv (invW i j k * 60 ^ 72), vn (invK i j k)])) := by
  refine call_of_X (fn := Tryd.f90) 3 Tryd.func90 rfl (by decide +kernel) rfl ?_ ?_ ?_ ?_
  · rfl
  · intro h; exact absurd h (by rw [sr90]; decide)
  · intro v hv; injection hv with hv; subst hv; simp [V.still, wc_transit]
  intro s hs hd ho
  have hm : s.m = ⟨.nil, []⟩ := by subst hs; rfl
  have h0 : s.t.get 0 = vn i := by subst hs; rfl
  have h1 : s.t.get 1 = vn j := by subst hs; rfl
  have h2 : s.t.get 2 = vn k := by subst hs; rfl
  clear hs
  have q1 : Ans X 88 [vi 1] (.ret (wv (1 * 60 ^ 72))) := P88 1 (by decide)
  have hM : max3 ((i + 1) / 2) j k = invK i j k := rfl
  have hM1 : invK i j k < 200 := by unfold invK; omega
  have hM2 : i ≤ 2 * invK i j k ∧ j ≤ invK i j k ∧ k ≤ invK i j k := by unfold invK; omega
  have hW : invW i j k = pW (2 * invK i j k - i) (invK i j k - j) (invK i j k - k) 3 := by rw [pW_three, invW]
  rw [hW] at hb ⊢
  clear hW
  generalize invK i j k = M at *
  obtain ⟨x, hx⟩ : ∃ x, 2 * M - i = x := ⟨_, rfl⟩
  obtain ⟨y, hy⟩ : ∃ y, M - j = y := ⟨_, rfl⟩
  obtain ⟨z, hz⟩ : ∃ z, M - k = z := ⟨_, rfl⟩
  rw [hx, hy, hz] at hb ⊢
  have e1' : (2 : Int) * (M : Int) = ((2 * M : Nat) : Int) := by omega
  have e1'' : ((2 * M : Nat) : Int) - (i : Int) = (x : Int) := by omega
  have e2 : (M : Int) - (j : Int) = (y : Int) := by omega
  have e3 : (M : Int) - (k : Int) = (z : Int) := by omega
  have hxb : x < 1000 := by omega
  have hyb : y < 1000 := by omega
  have hzb : z < 1000 := by omega
  clear hx hy hz hM2
  have ediv : Int.tdiv (((i + 1 : Nat)) : Int) 2 = (((i + 1) / 2 : Nat) : Int) := rfl
  repeat (first
    | with_reducible first | refine W_seq ?_ | refine W_skip ?_ | refine W_label ?_ | refine W_ret ?_ | refine W_exit ?_ | refine W_block ?_ | refine thenI ?_ | refine thenRet ?_ | refine thenExit ?_ | refine blockRet ?_ | refine blockI ?_ | refine blockExit ?_ | refine blockExitNe rfl ?_
    | (with_reducible refine W_region_k ?_
       intro K hK
       simp (maxSteps := 2000000) (disch := omega) only [SA, ofValue, ofCell, bin, intBin, un, idx, Go.Ev.builtin, calleeOf, V.isNilS, V.depthOk, depth1, V.ok1, V.isAgg, V.cells, isConst, Nat.reduceBEq, Nat.reduceEqDiff, ↓reduceIte, Nat.reduceLeDiff, Nat.reduceAdd, Nat.reduceMul, Nat.reduceSub, Nat.reduceLT, Int.reduceAdd, Int.reduceSub, Int.reduceMul, Int.reduceLT, Int.reduceLE, Int.reduceToNat, Int.reduceNeg, reduceIte, reduceCtorEq, SPx, SAx, SWx, cast_add1, ediv, max_cast, hM, e1', e1'', e2, e3, wr_nat, h0, h1, h2, hm, co88, sr88, q1.iff, Int.reduceEq]
       refine hK _ _ ?_
       clear hK K)
  )
  obtain ⟨cs, hcs⟩ : ∃ cs : List V, cs = [vi 2, vn x, vi 3, vn y, vi 5, vn z] := ⟨_, rfl⟩
  have hcl : ∀ l, l < 3 → List.take 2 (List.drop (l * 2) cs) = [vn (pB l), vn (pX x y z l)] := by
    intro l hl
    subst hcs
    rcases (show l = 0 ∨ l = 1 ∨ l = 2 by omega) with rfl | rfl | rfl <;> rfl
  refine W_loopg (fun (l : Nat) s => s.dfs = [] ∧ s.m.out.length = 0 ∧ s.t.get 6 = .ptr ⟨0, 6, 0, 1⟩ 0 0 ∧ s.t.get 8 = vn M ∧ s.t.get 9 = .ptr ⟨0, 9, 0, 1⟩ 0 0 ∧ s.t.get 32 = .agg cs ∧ s.t.get 33 = vn l ∧
    s.m.row ⟨0, 9, 0, 1⟩ = some ⟨1, 100, false, false, [wv (pW x y z l * 60 ^ 72)]⟩ ∧ s.m.row ⟨0, 6, 0, 1⟩ = some ⟨1, 100, false, false, [.agg (wc fun _ => 0)]⟩ ∧ l ≤ 3) (fun l => 3 - l) 0 ?_ ?_
  · refine ⟨hd, ?_, ?_, ?_, ?_, ?_, ?_, ?_, ?_, by omega⟩
    all_goals (try simp (maxSteps := 2000000) (disch := omega) only [SO, ofValue, ofCell, Nat.reduceBEq, Nat.reduceEqDiff, ↓reduceIte, and_self, and_true, true_and, Mem.newRef_eq, Mem.gen_nil, Mem.gen_new, Mem.gen_set, Mem.row_new, Mem.row_setW, Mem.new_out, Mem.set_out, List.length_nil, List.length_cons, Nat.zero_le, Nat.le_refl, Nat.reduceLeDiff, Nat.reduceAdd, and_self, and_true, true_and, Nat.zero_add, SWx, hm, pW])
    all_goals first | exact congrArg V.agg hcs.symm | rfl
  clear hd ho hm h0 h1 h2
  rintro l s ⟨hd, ho, h6, h8, h9, h32, h33, r9, r6, hl⟩
  repeat (first
    | with_reducible first | refine W_seq ?_ | refine W_skip ?_ | refine W_label ?_ | refine W_ret ?_ | refine W_exit ?_ | refine W_block ?_ | refine thenI ?_ | refine thenRet ?_ | refine thenExit ?_ | refine blockRet ?_ | refine blockI ?_ | refine blockExit ?_ | refine blockExitNe rfl ?_
    | (with_reducible refine W_region_k ?_
       intro K hK
       simp (maxSteps := 2000000) (disch := omega) only [SA, ofValue, ofCell, bin, intBin, un, idx, Go.Ev.builtin, calleeOf, V.isNilS, V.depthOk, depth1, V.ok1, V.isAgg, V.cells, isConst, Nat.reduceBEq, Nat.reduceEqDiff, ↓reduceIte, Nat.reduceLeDiff, Nat.reduceAdd, Nat.reduceMul, Nat.reduceSub, Nat.reduceLT, Int.reduceAdd, Int.reduceSub, Int.reduceMul, Int.reduceLT, Int.reduceLE, Int.reduceToNat, Int.reduceNeg, reduceIte, reduceCtorEq, SPx, h33]
       refine hK _ _ ?_
       clear hK K)
  )
  with_reducible refine W_cond2 (by simp only [SO, ofValue, ofCell, Nat.reduceBEq, Nat.reduceEqDiff, ↓reduceIte]; rfl) (fun h => ?_) (fun h => ?_)
  · have h := of_decide_eq_true h
    have hl : l < 3 := by omega
    have hl' : (l : Int) < 3 := by omega
    repeat (first
      | with_reducible first | refine W_seq ?_ | refine W_skip ?_ | refine W_label ?_ | refine W_ret ?_ | refine W_exit ?_ | refine W_block ?_ | refine thenI ?_ | refine thenRet ?_ | refine thenExit ?_ | refine blockRet ?_ | refine blockI ?_ | refine blockExit ?_ | refine blockExitNe rfl ?_
      | (with_reducible refine W_region_k ?_
         intro K hK
         simp (maxSteps := 2000000) (disch := omega) only [SA, ofValue, ofCell, bin, intBin, un, idx, Go.Ev.builtin, calleeOf, V.isNilS, V.depthOk, depth1, V.ok1, V.isAgg, V.cells, isConst, Nat.reduceBEq, Nat.reduceEqDiff, ↓reduceIte, Nat.reduceLeDiff, Nat.reduceAdd, Nat.reduceMul, Nat.reduceSub, Nat.reduceLT, Int.reduceAdd, Int.reduceSub, Int.reduceMul, Int.reduceLT, Int.reduceLE, Int.reduceToNat, Int.reduceNeg, reduceIte, reduceCtorEq, SPx, SAx, SWx, h6, h8, h9, h32, h33, r9, r6, ho, hcl l hl, hl']
         refine hK _ _ ?_
         clear hK K)
    )
    refine W_loopg (fun (q : Nat) s => s.dfs = [] ∧ s.m.out.length = 0 ∧ s.t.get 6 = .ptr ⟨0, 6, 0, 1⟩ 0 0 ∧ s.t.get 8 = vn M ∧ s.t.get 9 = .ptr ⟨0, 9, 0, 1⟩ 0 0 ∧ s.t.get 32 = .agg cs ∧ s.t.get 33 = vn l ∧
      (∃ g, s.t.get 11 = .ptr ⟨0, 11, 0, g⟩ 0 0 ∧ s.m.row ⟨0, 11, 0, g⟩ = some ⟨g, 84, false, false, [.agg [vn (pB l), vn (pX x y z l)]]⟩) ∧ s.t.get 37 = vn (pX x y z l) ∧ s.t.get 38 = vn q ∧
      s.m.row ⟨0, 9, 0, 1⟩ = some ⟨1, 100, false, false, [wv (pW x y z l * pB l ^ q * 60 ^ 72)]⟩ ∧ s.m.row ⟨0, 6, 0, 1⟩ = some ⟨1, 100, false, false, [.agg (wc fun _ => 0)]⟩ ∧ q ≤ pX x y z l) (fun q => pX x y z l - q) 0 ?_ ?_
    · refine ⟨hd, ?_, ?_, ?_, ?_, ?_, ?_, ⟨s.m.gen 11 0 + 1, ?_, ?_⟩, ?_, ?_, ?_, ?_, by omega⟩
      all_goals (try simp (maxSteps := 2000000) (disch := omega) only [SO, ofValue, ofCell, Nat.reduceBEq, Nat.reduceEqDiff, ↓reduceIte, and_self, and_true, true_and, Mem.newRef_eq, Mem.gen_nil, Mem.gen_new, Mem.gen_set, Mem.row_new, Mem.row_setW, Mem.new_out, Mem.set_out, List.length_nil, List.length_cons, Nat.zero_le, Nat.le_refl, Nat.reduceLeDiff, Nat.reduceAdd, and_self, and_true, true_and, Nat.zero_add, SWx, h6, h8, h9, h32, h33, r9, r6, ho, Nat.pow_zero, Nat.mul_one])
      all_goals rfl
    clear hd ho h6 h8 h9 h32 h33 r9 r6
    rintro q s ⟨hd, ho, h6, h8, h9, h32, h33, ⟨g, h11, r11⟩, h37, h38, r9, r6, hq⟩
    repeat (first
      | with_reducible first | refine W_seq ?_ | refine W_skip ?_ | refine W_label ?_ | refine W_ret ?_ | refine W_exit ?_ | refine W_block ?_ | refine thenI ?_ | refine thenRet ?_ | refine thenExit ?_ | refine blockRet ?_ | refine blockI ?_ | refine blockExit ?_ | refine blockExitNe rfl ?_
      | (with_reducible refine W_region_k ?_
         intro K hK
         simp (maxSteps := 2000000) (disch := omega) only [SA, ofValue, ofCell, bin, intBin, un, idx, Go.Ev.builtin, calleeOf, V.isNilS, V.depthOk, depth1, V.ok1, V.isAgg, V.cells, isConst, Nat.reduceBEq, Nat.reduceEqDiff, ↓reduceIte, Nat.reduceLeDiff, Nat.reduceAdd, Nat.reduceMul, Nat.reduceSub, Nat.reduceLT, Int.reduceAdd, Int.reduceSub, Int.reduceMul, Int.reduceLT, Int.reduceLE, Int.reduceToNat, Int.reduceNeg, reduceIte, reduceCtorEq, SPx, h37, h38]
         refine hK _ _ ?_
         clear hK K)
    )
    with_reducible refine W_cond2 (by simp only [SO, ofValue, ofCell, Nat.reduceBEq, Nat.reduceEqDiff, ↓reduceIte]; rfl) (fun h => ?_) (fun h => ?_)
    · have h := of_decide_eq_true h
      have hq : q < pX x y z l := by omega
      have hpx : pX x y z l < 1000 := by unfold pX; split <;> (try split) <;> assumption
      have hle : pW x y z l * pB l ^ q * pB l ≤ pW x y z 3 := by
        rw [Nat.mul_assoc, ← Nat.pow_succ]
        refine Nat.le_trans ?_ (pW_mono x y z (show l + 1 ≤ 3 by omega))
        exact Nat.mul_le_mul_left _ (Nat.pow_le_pow_right (pB_pos l).1 hq)
      have hlt : pW x y z l * pB l ^ q * 60 ^ 72 * pB l < 60 ^ 168 := by
        rw [Nat.mul_right_comm]
        calc pW x y z l * pB l ^ q * pB l * 60 ^ 72 < 60 ^ 90 * 60 ^ 72 := Nat.mul_lt_mul_of_pos_right (Nat.lt_of_le_of_lt hle hb) (by decide)
          _ ≤ 60 ^ 168 := by decide
      have q2 := P115 (pW x y z l * pB l ^ q * 60 ^ 72) (pB l) (Nat.lt_of_le_of_lt (Nat.le_mul_of_pos_right _ (pB_pos l).1) hlt) (by have := (pB_pos l).2; omega)
      rw [if_pos hlt, show pW x y z l * pB l ^ q * 60 ^ 72 * pB l = pW x y z l * pB l ^ (q + 1) * 60 ^ 72 by rw [Nat.pow_succ]; grind] at q2
      repeat (first
        | with_reducible first | refine W_seq ?_ | refine W_skip ?_ | refine W_label ?_ | refine W_ret ?_ | refine W_exit ?_ | refine W_block ?_ | refine thenI ?_ | refine thenRet ?_ | refine thenExit ?_ | refine blockRet ?_ | refine blockI ?_ | refine blockExit ?_ | refine blockExitNe rfl ?_
        | (with_reducible refine W_region_k ?_
           intro K hK
           simp (maxSteps := 2000000) (disch := omega) only [SA, ofValue, ofCell, bin, intBin, un, idx, Go.Ev.builtin, calleeOf, V.isNilS, V.depthOk, depth1, V.ok1, V.isAgg, V.cells, isConst, Nat.reduceBEq, Nat.reduceEqDiff, ↓reduceIte, Nat.reduceLeDiff, Nat.reduceAdd, Nat.reduceMul, Nat.reduceSub, Nat.reduceLT, Int.reduceAdd, Int.reduceSub, Int.reduceMul, Int.reduceLT, Int.reduceLE, Int.reduceToNat, Int.reduceNeg, reduceIte, reduceCtorEq, SPx, SAx, SWx, SCx, Int.reduceEq, h6, h8, h9, h11, h32, h33, h37, h38, r9, r6, r11, ho, co115, sr115, q2.iff]
           refine hK _ _ ?_
           clear hK K)
      )
      refine ⟨q + 1, ⟨hd, ?_, ?_, ?_, ?_, ?_, ?_, ⟨g, ?_, ?_⟩, ?_, ?_, ?_, ?_, by omega⟩, by omega⟩
      all_goals (try simp (maxSteps := 2000000) (disch := omega) only [SO, ofValue, ofCell, Nat.reduceBEq, Nat.reduceEqDiff, ↓reduceIte, and_self, and_true, true_and, Mem.newRef_eq, Mem.gen_nil, Mem.gen_new, Mem.gen_set, Mem.row_new, Mem.row_setW, Mem.new_out, Mem.set_out, List.length_nil, List.length_cons, Nat.zero_le, Nat.le_refl, Nat.reduceLeDiff, Nat.reduceAdd, and_self, and_true, true_and, Nat.zero_add, SWx, h6, h8, h9, h11, h32, h33, h37, r6, r11, ho])
    · have h := of_decide_eq_false h
      obtain rfl : q = pX x y z l := by omega
      repeat (first
        | with_reducible first | refine W_seq ?_ | refine W_skip ?_ | refine W_label ?_ | refine W_ret ?_ | refine W_exit ?_ | refine W_block ?_ | refine thenI ?_ | refine thenRet ?_ | refine thenExit ?_ | refine blockRet ?_ | refine blockI ?_ | refine blockExit ?_ | refine blockExitNe rfl ?_
        | (with_reducible refine W_region_k ?_
           intro K hK
           simp (maxSteps := 2000000) (disch := omega) only [SA, ofValue, ofCell, bin, intBin, un, idx, Go.Ev.builtin, calleeOf, V.isNilS, V.depthOk, depth1, V.ok1, V.isAgg, V.cells, isConst, Nat.reduceBEq, Nat.reduceEqDiff, ↓reduceIte, Nat.reduceLeDiff, Nat.reduceAdd, Nat.reduceMul, Nat.reduceSub, Nat.reduceLT, Int.reduceAdd, Int.reduceSub, Int.reduceMul, Int.reduceLT, Int.reduceLE, Int.reduceToNat, Int.reduceNeg, reduceIte, reduceCtorEq, SPx, SCx, Int.reduceEq, h33]
           refine hK _ _ ?_
           clear hK K)
      )
      refine ⟨l + 1, ⟨hd, ?_, ?_, ?_, ?_, ?_, ?_, ?_, ?_, by omega⟩, by omega⟩
      all_goals (try simp (maxSteps := 2000000) (disch := omega) only [SO, ofValue, ofCell, Nat.reduceBEq, Nat.reduceEqDiff, ↓reduceIte, and_self, and_true, true_and, Mem.newRef_eq, Mem.gen_nil, Mem.gen_new, Mem.gen_set, Mem.row_new, Mem.row_setW, Mem.new_out, Mem.set_out, List.length_nil, List.length_cons, Nat.zero_le, Nat.le_refl, Nat.reduceLeDiff, Nat.reduceAdd, and_self, and_true, true_and, Nat.zero_add, SWx, h6, h8, h9, h32, r9, r6, ho])
      rfl
  · have h := of_decide_eq_false h
    obtain rfl : l = 3 := by omega
    repeat (first
      | with_reducible first | refine W_seq ?_ | refine W_skip ?_ | refine W_label ?_ | refine W_ret ?_ | refine W_exit ?_ | refine W_block ?_ | refine thenI ?_ | refine thenRet ?_ | refine thenExit ?_ | refine blockRet ?_ | refine blockI ?_ | refine blockExit ?_ | refine blockExitNe rfl ?_
      | (with_reducible refine W_region_k ?_
         intro K hK
         simp (maxSteps := 2000000) (disch := omega) only [SA, ofValue, ofCell, bin, intBin, un, idx, Go.Ev.builtin, calleeOf, V.isNilS, V.depthOk, depth1, V.ok1, V.isAgg, V.cells, isConst, Nat.reduceBEq, Nat.reduceEqDiff, ↓reduceIte, Nat.reduceLeDiff, Nat.reduceAdd, Nat.reduceMul, Nat.reduceSub, Nat.reduceLT, Int.reduceAdd, Int.reduceSub, Int.reduceMul, Int.reduceLT, Int.reduceLE, Int.reduceToNat, Int.reduceNeg, reduceIte, reduceCtorEq, SPx, SAx, SWx, h6, h8, h9, r9, r6, ho]
         refine hK _ _ ?_
         clear hK K)
    )
    refine end_ret hd (by simp (maxSteps := 2000000) (disch := omega) only [Tryd.results90, resVars, resVar, SA, ofValue, ofCell, bin, intBin, un, idx, Go.Ev.builtin, calleeOf, V.isNilS, V.depthOk, depth1, V.ok1, V.isAgg, V.cells, isConst, Nat.reduceBEq, Nat.reduceEqDiff, ↓reduceIte, Nat.reduceLeDiff, Nat.reduceAdd, Nat.reduceMul, Nat.reduceSub, Nat.reduceLT, Int.reduceAdd, Int.reduceSub, Int.reduceMul, Int.reduceLT, Int.reduceLE, Int.reduceToNat, Int.reduceNeg, reduceIte, reduceCtorEq, SPx, SAx, SWx, h6, h8, h9, r9, r6, ho]; rfl) ?_
    simp (maxSteps := 2000000) (disch := omega) only [SA, ofValue, ofCell, bin, intBin, un, idx, Go.Ev.builtin, calleeOf, V.isNilS, V.depthOk, depth1, V.ok1, V.isAgg, V.cells, isConst, Nat.reduceBEq, Nat.reduceEqDiff, ↓reduceIte, Nat.reduceLeDiff, Nat.reduceAdd, Nat.reduceMul, Nat.reduceSub, Nat.reduceLT, Int.reduceAdd, Int.reduceSub, Int.reduceMul, Int.reduceLT, Int.reduceLE, Int.reduceToNat, Int.reduceNeg, reduceIte, reduceCtorEq, true_and, and_true, Nat.zero_add, Nat.le_refl, if_true, ↓reduceIte, resOf, X_own, mv_int, mv_bool, mv_str, mv_sl, mv_nilS, mv_tup, mv2s_nil, mv2s_cons, mv2_int, mv2_bool, mv2_str, mv2_sl, mv2_nilS, Option.map_some, vi, vn, SPx, SAx, SWx, h6, h8, h9, r9, r6, ho]
end Go.Proofs.YtpocekfifokndaaDoor
namespace Go.Proofs.YtpocekfifokndaaDoor
open Go Go.Ev Go.Pl
set_option maxRecDepth 100000
set_option maxHeartbeats 4000000
theorem P101 (N n : Nat) (hN : N < 60 ^ 168) (hn0 : 0 < n) (hn : n < 1000000000000) : Ans X 101 [wv N, vn n] (.ret (.tup [wv (N / 60 ^ 72 / n * 60 ^ 72 + N % 60 ^ 72), vn (N / 60 ^ 72 % n)])) := by
  refine call_of_X (fn := Tryd.f101) 2 Tryd.func101 rfl (by decide +kernel) rfl ?_ ?_ ?_ ?_
  · simp only [List.any_cons, List.any_nil, wv_refs]; rfl
  · intro h; exact absurd h (by rw [show scalarRes Tryd.prog 101 = false by kernel_rfl]; decide)
  · intro v hv; injection hv with hv; subst hv; simp [V.still, wc_transit]
  intro s hs hd ho
  have hm : s.m = ⟨.nil, []⟩ := by subst hs; rfl
  have h0 : s.t.get 0 = .agg (wc (dig N)) := by subst hs; rfl
  have h1 : s.t.get 1 = vn n := by subst hs; rfl
  clear hs
  have hA : ∀ i, dig N (i + 72) = dig (N / 60 ^ 72) i := fun i => by unfold dig; rw [Nat.div_div_eq_div_mul, ← Nat.pow_add, Nat.add_comm 72]
  have hAl : N / 60 ^ 72 < 60 ^ 96 := by
    refine Nat.div_lt_of_lt_mul ?_
    rw [← Nat.pow_add]; exact hN
  repeat (first
    | with_reducible first | refine W_seq ?_ | refine W_skip ?_ | refine W_label ?_ | refine W_ret ?_ | refine W_exit ?_ | refine W_block ?_ | refine thenI ?_ | refine thenRet ?_ | refine thenExit ?_ | refine blockRet ?_ | refine blockI ?_ | refine blockExit ?_ | refine blockExitNe rfl ?_
    | (with_reducible refine W_region_k ?_
       intro K hK
       simp (maxSteps := 2000000) (disch := omega) only [SA, ofValue, ofCell, bin, intBin, un, idx, Go.Ev.builtin, calleeOf, V.isNilS, V.depthOk, depth1, V.ok1, V.isAgg, V.cells, isConst, Nat.reduceBEq, Nat.reduceEqDiff, ↓reduceIte, Nat.reduceLeDiff, Nat.reduceAdd, Nat.reduceMul, Nat.reduceSub, Nat.reduceLT, Int.reduceAdd, Int.reduceSub, Int.reduceMul, Int.reduceLT, Int.reduceLE, Int.reduceToNat, Int.reduceNeg, reduceIte, reduceCtorEq, SPx, SWx, h0, h1, hm]
       refine hK _ _ ?_
       clear hK K)
  )
  refine W_loopg (fun (k : Nat) s => s.dfs = [] ∧ s.m.out.length = 0 ∧ s.t.get 1 = vn n ∧ s.t.get 2 = .ptr ⟨0, 2, 0, 1⟩ 0 0 ∧ s.t.get 4 = .ptr ⟨0, 4, 0, 1⟩ 0 0 ∧
    s.t.get 7 = vn (k + 71) ∧ s.t.get 6 = vn (N / 60 ^ 72 / 60 ^ k % n) ∧
    s.m.row ⟨0, 2, 0, 1⟩ = some ⟨1, 100, false, false, [.agg (wc fun j => if j < k + 72 then dig N j else dig (N / 60 ^ 72 / n) (j - 72))]⟩ ∧
    s.m.row ⟨0, 4, 0, 1⟩ = some ⟨1, 100, false, false, [.agg (wc fun _ => 0)]⟩ ∧ k ≤ 96) (fun k => k) 96 ?_ ?_
  · refine ⟨hd, ?_, ?_, ?_, ?_, ?_, ?_, ?_, ?_, Nat.le_refl _⟩
    all_goals (try simp (maxSteps := 2000000) (disch := omega) only [SO, ofValue, ofCell, Nat.reduceBEq, Nat.reduceEqDiff, ↓reduceIte, and_self, and_true, true_and, Mem.newRef_eq, Mem.gen_nil, Mem.gen_new, Mem.gen_set, Mem.row_new, Mem.row_setW, Mem.new_out, Mem.set_out, List.length_nil, List.length_cons, Nat.zero_le, Nat.le_refl, Nat.reduceLeDiff, Nat.reduceAdd, and_self, and_true, true_and, Nat.zero_add, SWx, h0, h1, hm])
    · rfl
    · rw [Nat.div_eq_of_lt hAl]; simp
    · exact wrow fun j hj => by rw [if_pos hj]
  clear hd h0 h1 ho hm
  rintro k s ⟨hd, ho, h1, h2, h4, h7, h6, r2, r4, hk⟩
  repeat (first
    | with_reducible first | refine W_seq ?_ | refine W_skip ?_ | refine W_label ?_ | refine W_ret ?_ | refine W_exit ?_ | refine W_block ?_ | refine thenI ?_ | refine thenRet ?_ | refine thenExit ?_ | refine blockRet ?_ | refine blockI ?_ | refine blockExit ?_ | refine blockExitNe rfl ?_
    | (with_reducible refine W_region_k ?_
       intro K hK
       simp (maxSteps := 2000000) (disch := omega) only [SA, ofValue, ofCell, bin, intBin, un, idx, Go.Ev.builtin, calleeOf, V.isNilS, V.depthOk, depth1, V.ok1, V.isAgg, V.cells, isConst, Nat.reduceBEq, Nat.reduceEqDiff, ↓reduceIte, Nat.reduceLeDiff, Nat.reduceAdd, Nat.reduceMul, Nat.reduceSub, Nat.reduceLT, Int.reduceAdd, Int.reduceSub, Int.reduceMul, Int.reduceLT, Int.reduceLE, Int.reduceToNat, Int.reduceNeg, reduceIte, reduceCtorEq, SPx, SWx, h1, h2, h4, h7, h6, r2, r4, ho]
       refine hK _ _ ?_
       clear hK K)
  )
  with_reducible refine W_cond2 (by simp only [SO, ofValue, ofCell, Nat.reduceBEq, Nat.reduceEqDiff, ↓reduceIte]; rfl) (fun h => ?_) (fun h => ?_)
  · have h := of_decide_eq_true h
    obtain ⟨i, rfl⟩ : ∃ i, k = i + 1 := ⟨k - 1, by omega⟩
    have h7 : s.t.get 7 = vn (i + 72) := h7
    have hb : N / 60 ^ 72 / 60 ^ (i + 1) % n < 1000000000000 := Nat.lt_trans (Nat.mod_lt _ hn0) hn
    have hb2 := dig_lt N (i + 72)
    have hk : i + 72 < 168 := by omega
    have hlt : i + 72 < i + 1 + 72 := by omega
    obtain ⟨t1, t2⟩ := over_step (N / 60 ^ 72) n i hn0
    rw [← hA] at t1 t2
    have hb3 := dig_lt (N / 60 ^ 72 / n) i
    have hn1 : ¬ ((n : Int) = 0) := by omega
    have hsub : ((i + 72 : Nat) : Int) - 1 = ((i + 71 : Nat) : Int) := by omega
    repeat (first
      | with_reducible first | refine W_seq ?_ | refine W_skip ?_ | refine W_label ?_ | refine W_ret ?_ | refine W_exit ?_ | refine W_block ?_ | refine thenI ?_ | refine thenRet ?_ | refine thenExit ?_ | refine blockRet ?_ | refine blockI ?_ | refine blockExit ?_ | refine blockExitNe rfl ?_
      | (with_reducible refine W_region_k ?_
         intro K hK
         simp (maxSteps := 2000000) (disch := omega) only [SA, ofValue, ofCell, bin, intBin, un, idx, Go.Ev.builtin, calleeOf, V.isNilS, V.depthOk, depth1, V.ok1, V.isAgg, V.cells, isConst, Nat.reduceBEq, Nat.reduceEqDiff, ↓reduceIte, Nat.reduceLeDiff, Nat.reduceAdd, Nat.reduceMul, Nat.reduceSub, Nat.reduceLT, Int.reduceAdd, Int.reduceSub, Int.reduceMul, Int.reduceLT, Int.reduceLE, Int.reduceToNat, Int.reduceNeg, reduceIte, reduceCtorEq, SPx, SWx, SCx, Int.reduceEq, h1, h2, h4, h7, h6, r2, r4, ho, hk, hlt, t1, t2, hn1, hsub]
         refine hK _ _ ?_
         clear hK K)
    )
    refine ⟨i, ⟨hd, ?_, ?_, ?_, ?_, ?_, ?_, ?_, ?_, by omega⟩, by omega⟩
    all_goals (try simp (maxSteps := 2000000) (disch := omega) only [SO, ofValue, ofCell, Nat.reduceBEq, Nat.reduceEqDiff, ↓reduceIte, and_self, and_true, true_and, Mem.newRef_eq, Mem.gen_nil, Mem.gen_new, Mem.gen_set, Mem.row_new, Mem.row_setW, Mem.new_out, Mem.set_out, List.length_nil, List.length_cons, Nat.zero_le, Nat.le_refl, Nat.reduceLeDiff, Nat.reduceAdd, and_self, and_true, true_and, Nat.zero_add, SWx, h1, h2, h4, r2, r4, ho, t1, t2])
    refine wrow fun j _ => ?_
    by_cases e : j = i + 72
    · subst e; rw [if_pos rfl, if_neg (by omega), Nat.add_sub_cancel]
    · rw [if_neg e]
      by_cases e' : j < i + 72
      · rw [if_pos e', if_pos (by omega)]
      · rw [if_neg e', if_neg (by omega)]
  · have h := of_decide_eq_false h
    obtain rfl : k = 0 := by omega
    have r2' : s.m.row ⟨0, 2, 0, 1⟩ = some ⟨1, 100, false, false, [.agg (wc (dig (N / 60 ^ 72 / n * 60 ^ 72 + N % 60 ^ 72)))]⟩ := by
      rw [r2]
      refine wrow fun j hj => ?_
      rw [dig_join]
    clear r2
    have h6 : s.t.get 6 = vn (N / 60 ^ 72 % n) := by rw [h6]; simp
    repeat (first
      | with_reducible first | refine W_seq ?_ | refine W_skip ?_ | refine W_label ?_ | refine W_ret ?_ | refine W_exit ?_ | refine W_block ?_ | refine thenI ?_ | refine thenRet ?_ | refine thenExit ?_ | refine blockRet ?_ | refine blockI ?_ | refine blockExit ?_ | refine blockExitNe rfl ?_
      | (with_reducible refine W_region_k ?_
         intro K hK
         simp (maxSteps := 2000000) (disch := omega) only [SA, ofValue, ofCell, bin, intBin, un, idx, Go.Ev.builtin, calleeOf, V.isNilS, V.depthOk, depth1, V.ok1, V.isAgg, V.cells, isConst, Nat.reduceBEq, Nat.reduceEqDiff, ↓reduceIte, Nat.reduceLeDiff, Nat.reduceAdd, Nat.reduceMul, Nat.reduceSub, Nat.reduceLT, Int.reduceAdd, Int.reduceSub, Int.reduceMul, Int.reduceLT, Int.reduceLE, Int.reduceToNat, Int.reduceNeg, reduceIte, reduceCtorEq, SPx, SWx, h1, h2, h4, h6, r2', r4, ho]
         refine hK _ _ ?_
         clear hK K)
    )
    refine end_ret hd (by simp (maxSteps := 2000000) (disch := omega) only [Tryd.results101, resVars, resVar, SA, ofValue, ofCell, bin, intBin, un, idx, Go.Ev.builtin, calleeOf, V.isNilS, V.depthOk, depth1, V.ok1, V.isAgg, V.cells, isConst, Nat.reduceBEq, Nat.reduceEqDiff, ↓reduceIte, Nat.reduceLeDiff, Nat.reduceAdd, Nat.reduceMul, Nat.reduceSub, Nat.reduceLT, Int.reduceAdd, Int.reduceSub, Int.reduceMul, Int.reduceLT, Int.reduceLE, Int.reduceToNat, Int.reduceNeg, reduceIte, reduceCtorEq, SPx, SWx, h1, h2, h4, r2', r4, ho]; rfl) ?_
    simp (maxSteps := 2000000) (disch := omega) only [SA, ofValue, ofCell, bin, intBin, un, idx, Go.Ev.builtin, calleeOf, V.isNilS, V.depthOk, depth1, V.ok1, V.isAgg, V.cells, isConst, Nat.reduceBEq, Nat.reduceEqDiff, ↓reduceIte, Nat.reduceLeDiff, Nat.reduceAdd, Nat.reduceMul, Nat.reduceSub, Nat.reduceLT, Int.reduceAdd, Int.reduceSub, Int.reduceMul, Int.reduceLT, Int.reduceLE, Int.reduceToNat, Int.reduceNeg, reduceIte, reduceCtorEq, true_and, and_true, Nat.zero_add, Nat.le_refl, if_true, ↓reduceIte, resOf, X_own, mv_int, mv_bool, mv_str, mv_sl, mv_nilS, mv_tup, mv2s_nil, mv2s_cons, mv2_int, mv2_bool, mv2_str, mv2_sl, mv2_nilS, Option.map_some, vi, vn, SPx, SWx, h1, h2, h4, r2', r4, ho]
end Go.Proofs.YtpocekfifokndaaDoor
namespace Go.Pl
def mult (p N : Nat) : Nat := if h : 1 < p ∧ 0 < N ∧ N % p = 0 then mult p (N / p) + 1 else 0
termination_by N
decreasing_by exact Nat.div_lt_self h.2.1 h.1
theorem mult_yes {p N : Nat} (hp : 1 < p) (hN : 0 < N) (h : N % p = 0) : mult p N = mult p (N / p) + 1 := by rw [mult, dif_pos ⟨hp, hN, h⟩]
theorem mult_no {p N : Nat} (h : N % p ≠ 0) : mult p N = 0 := by rw [mult, dif_neg (fun e => h e.2.2)]
def rem (p N : Nat) : Nat := N / p ^ mult p N
theorem rem_yes {p N : Nat} (hp : 1 < p) (hN : 0 < N) (h : N % p = 0) : rem p N = rem p (N / p) := by
  unfold rem
  rw [mult_yes hp hN h, Nat.pow_succ, Nat.mul_comm, ← Nat.div_div_eq_div_mul]
theorem rem_no {p N : Nat} (h : N % p ≠ 0) : rem p N = N := by unfold rem; rw [mult_no h, Nat.pow_zero, Nat.div_one]
theorem rem_spec {p N : Nat} (hp : 1 < p) (hN : 0 < N) : N = rem p N * p ^ mult p N ∧ 0 < rem p N ∧ rem p N % p ≠ 0 := by
  induction N using Nat.strongRecOn with
  | _ N ih =>
    by_cases h : N % p = 0
    · have hd : 0 < N / p := Nat.div_pos (Nat.le_of_dvd hN (Nat.dvd_of_mod_eq_zero h)) (by omega)
      obtain ⟨h1, h2, h3⟩ := ih (N / p) (Nat.div_lt_self hN hp) hd
      rw [rem_yes hp hN h, mult_yes hp hN h]
      refine ⟨?_, h2, h3⟩
      have e : N = N / p * p := (Nat.div_mul_cancel (Nat.dvd_of_mod_eq_zero h)).symm
      rw [Nat.pow_succ, ← Nat.mul_assoc, ← h1]
      exact e
    · rw [rem_no h, mult_no h]; exact ⟨by simp, hN, h⟩
theorem rem_le (p N : Nat) : rem p N ≤ N := Nat.div_le_self _ _
theorem mult_le {p N : Nat} (hp : 1 < p) (hN : 0 < N) : mult p N < N := by
  have h := rem_spec hp hN
  have h1 : mult p N < p ^ mult p N := Nat.lt_pow_self hp
  have h2 : p ^ mult p N ≤ rem p N * p ^ mult p N := Nat.le_mul_of_pos_left _ h.2.1
  omega
def splitF : List Nat → Nat → List Nat × Nat
  | [], N => ([], N)
  | p :: ps, N => (mult p N :: (splitF ps (rem p N)).1, (splitF ps (rem p N)).2)
theorem splitF_length : ∀ ps N, (splitF ps N).1.length = ps.length
  | [], _ => rfl
  | p :: ps, N => by simp [splitF, splitF_length ps]
end Go.Pl
namespace Go.Proofs.YtpocekfifokndaaDoor
open Go Go.Ev Go.Pl
set_option maxRecDepth 100000
set_option maxHeartbeats 4000000
theorem splitF_cons (p : Nat) (ps : List Nat) (N : Nat) : splitF (p :: ps) N = (mult p N :: (splitF ps (rem p N)).1, (splitF ps (rem p N)).2) := rfl
theorem over_whole (C p : Nat) : C * 60 ^ 72 / 60 ^ 72 / p * 60 ^ 72 + C * 60 ^ 72 % 60 ^ 72 = C / p * 60 ^ 72 := by
  rw [Nat.mul_div_cancel _ (pow_pos 72), Nat.mul_mod_left, Nat.add_zero]
theorem over_rest (C p : Nat) : C * 60 ^ 72 / 60 ^ 72 % p = C % p := by rw [Nat.mul_div_cancel _ (pow_pos 72)]
theorem Q101 (C p : Nat) (hC : C < 60 ^ 90) (hp0 : 0 < p) (hp : p < 1000) : Ans X 101 [wv (C * 60 ^ 72), vn p] (.ret (.tup [wv (C / p * 60 ^ 72), vn (C % p)])) := by
  have h := P101 (C * 60 ^ 72) p (by
    calc C * 60 ^ 72 < 60 ^ 90 * 60 ^ 72 := Nat.mul_lt_mul_of_pos_right hC (by decide)
      _ ≤ 60 ^ 168 := by decide) hp0 (by omega)
  rw [over_whole, over_rest] at h
  exact h
theorem mult_bound {p c C : Nat} (n : Nat) (hp : 1 < p) (h : p ^ c ≤ C) (hC : C < 60 ^ n) : c < 6 * n := by
  have h1 : 2 ^ c ≤ p ^ c := Nat.pow_le_pow_left (by omega) _
  have h2 : 60 ^ n ≤ (2 ^ 6) ^ n := Nat.pow_le_pow_left (by decide) _
  rw [← Nat.pow_mul] at h2
  exact (Nat.pow_lt_pow_iff_right (a := 2) (by decide)).1 (Nat.lt_of_le_of_lt h1 (Nat.lt_of_le_of_lt h (Nat.lt_of_lt_of_le hC h2)))
theorem P87 (ps : List Nat) (N : Nat) (hps : ∀ p ∈ ps, 1 < p ∧ p < 100) (hl : ps.length ≤ 10) (hN : 0 < N) (hb : N < 60 ^ 90) :
    Ans X 87 [wv (N * 60 ^ 72), .sl (nats ps)] (.ret (.tup [.sl (nats (splitF ps N).1), wv ((splitF ps N).2 * 60 ^ 72)])) := by
  refine call_of_X (fn := Tryd.f87) 2 Tryd.func87 rfl (by decide +kernel) rfl ?_ ?_ ?_ ?_
  · simp only [List.any_cons, List.any_nil, wv_refs]; rfl
  · intro h; exact absurd h (by rw [sr87]; decide)
  · intro v hv; injection hv with hv; subst hv; simp [V.still, wc_transit]
  intro s hs hd ho
  have hm : s.m = ⟨.nil, []⟩ := by subst hs; rfl
  have h0 : s.t.get 0 = wv (N * 60 ^ 72) := by subst hs; rfl
  have h1 : s.t.get 1 = .sl (nats ps) := by subst hs; rfl
  clear hs
  repeat (first
    | with_reducible first | refine W_seq ?_ | refine W_skip ?_ | refine W_label ?_ | refine W_ret ?_ | refine W_exit ?_ | refine W_block ?_ | refine thenI ?_ | refine thenRet ?_ | refine thenExit ?_ | refine blockRet ?_ | refine blockI ?_ | refine blockExit ?_ | refine blockExitNe rfl ?_
    | (with_reducible refine W_region_k ?_
       intro K hK
       simp (maxSteps := 2000000) (disch := omega) only [WL_cons_iff, WL_nil_iff, next_defer, next_val, next_skip, next_call, next_panic, wantedV, arr_toList, arr_get?, put, Option.bind_some, Option.map_some, Option.getD_some, Option.getD_none, Option.map_none, evOp_move, evOp_assign, evOp_pick, evOp_alloc, evOp_box, evOp_build, evOp_buildSlice, evOp_load, evOp_store, evOp_nilCheck, evOp_binOp, evOp_unOp, evOp_convert, evOp_makeInterface, evOp_makeFunc, evOp_makeSlice, evOp_slice, evOp_fieldAddr, evOp_field, evOp_indexAddr, evOp_index, evOp_extract, evOp_typeAssert, evOp_call, evOp_defer, evOp_panic, opd, ofValue, ofCell, Tm.get_setb, cond_true, cond_false, Nat.reduceBEq, ne_eq, Nat.reduceEqDiff, not_false_eq_true, ↓reduceIte, if_true, if_false, Option.isNone_none, Bool.and_self, Bool.and_true, beq_self_eq_true, filled_rs, filled_nilS, mapOpd, List.map_cons, List.map_nil, bin, intBin, un, idx, Go.Ev.builtin, calleeOf, List.getElem?_toArray, List.toList_toArray, filled_int, filled_bool, filled_str, filled_sl, filled_ifc, filled_nilI, filled_rs, filled_ptr, filled_fn, filled_nilS, snaps_nil, snaps_cons, snap_int, snap_bool, snap_str, snap_sl, snap_nilS, snap_ifc, snap_nilI, snap_rs, snap_ptr, snap_cptr, snap_fn, frzs_nil, frzs_cons, frz_int, frz_bool, frz_str, frz_sl, frz_nilS, frz_ifc, frz_nilI, frz_ptr, frz_cptr, frz_fn, frz_rs, unNil_int, unNil_bool, unNil_str, unNil_sl, unNil_ifc, unNil_nilI, unNil_ptr, unNil_fn, unNil_rs, unNil_nilS, Nat.lt_irrefl, V.isNilS, V.depthOk, depth1, V.ok1, setElem, Nat.zero_add, Nat.add_zero, Nat.mul_one, Nat.one_mul, Mem.newRef_eq, Mem.gen_nil, Mem.gen_new, Mem.gen_set, Mem.row_new, Mem.row_setW, Mem.new_out, Mem.set_out, List.length_nil, List.length_cons, Nat.zero_le, Nat.le_refl, Nat.reduceLeDiff, Nat.reduceAdd, and_self, and_true, true_and, List.set_cons_zero, List.set_cons_succ, false_and, and_false, or_false, false_or, or_true, true_or, List.any_cons, List.any_nil, Bool.or_false, Bool.false_or, Bool.or_true, Bool.true_or, List.isEmpty_nil, List.isEmpty_cons, refs_int, refs_bool, refs_str, refs_sl, refs_ifc, refs_nilI, refs_ptr, refs_rs, refs_fn, refs_agg, loose_int, loose_bool, loose_str, loose_sl, loose_ifc, loose_nilI, loose_nilS, loose_ptr, loose_rs, loose_fn, pick, Go.Ev.part, width_int, width_bool, width_str, width_sl, width_rs, width_nilS, width_nilI, width_ifc, width_ptr, width_cptr, width_fn, width_agg, V.isAgg, V.cells, Int.toNat_natCast, Nat.reduceAdd, Nat.reduceMul, Nat.reduceSub, Nat.reduceLeDiff, Nat.reduceBEq, Nat.reduceLT, Int.reduceAdd, Int.reduceSub, Int.reduceMul, Int.reduceLT, Int.reduceLE, Int.reduceToNat, Int.reduceNeg, ite_yes, beq_iff_eq, decide_eq_true_eq, List.nil_append, List.append_nil, Option.some.injEq, if_true, if_false, ite_true, ite_false, reduceIte, reduceCtorEq, Bool.false_eq_true, decide_true, decide_false, List.getElem?_cons_zero, List.getElem?_cons_succ, beq_self_eq_true, and_self, and_true, true_and, Bool.not_true, Bool.not_false, isConst, ↓reduceIte, X_P, Tryd.underlying3, c3, b3, a3, k3, z3, Tryd.underlying4, c4, b4, a4, k4, z4, Tryd.underlying5, c5, b5, a5, k5, z5, Tryd.underlying9, c9, b9, a9, k9, z9, Tryd.underlying20, c20, b20, a20, k20, Tryd.underlying22, c22, b22, a22, k22, z22, e22, Tryd.underlying23, c23, b23, a23, k23, z23, Tryd.underlying32, c32, b32, a32, k32, z32, p32, Tryd.underlying45, c45, b45, a45, k45, z45, e45, Tryd.underlying54, c54, b54, a54, k54, z54, p54, Tryd.underlying61, c61, b61, a61, k61, z61, e61, Tryd.underlying64, c64, b64, a64, k64, z64, e64, Tryd.underlying69, c69, b69, a69, k69, z69, p69, Tryd.underlying76, c76, b76, a76, k76, z76, p76, Tryd.underlying84, c84, b84, a84, k84, z84, p84, Tryd.underlying94, c94, b94, a94, k94, z94, e94, Tryd.underlying95, c95, b95, a95, k95, z95, e95, Tryd.underlying98, c98, b98, a98, k98, z98, p98, Tryd.underlying100, c100, b100, a100, k100, z100, p100, Tryd.underlying116, c116, b116, a116, k116, z116, e116, Tryd.underlying119, c119, b119, a119, k119, z119, p119, Tryd.underlying142, c142, b142, a142, k142, z142, p142, Tryd.underlying143, c143, b143, a143, k143, z143, p143, Tryd.underlying152, c152, b152, a152, k152, z152, p152, Tryd.underlying154, c154, b154, a154, k154, z154, Tryd.underlying157, c157, b157, a157, k157, z157, e157, Tryd.underlying159, c159, b159, a159, k159, z159, p159, cut_one, cut_nats, nats_snoc, nats_length, nats_width, ints_width, maxLen_eq, appendTo, elemsOf, fillElems, elemOk, List.zip_cons_cons, List.zip_nil_left, List.zip_nil_right, List.replicate_one, List.all_cons, List.all_nil, Option.isSome_some, Nat.le_refl, List.length_append, List.map_cons, List.map_nil, Bool.and_true, Bool.true_and, bounds, loOf, hiOf, Bool.not_false, wc_length, wc_get, wc_splice, wc_loose, wc_nil, wc_zero, wc_take, filled_wc, snap_wc, frz_wc, rowsOf_wc, ptrs_wc, mv_wc, mv2_wc, depth_wc, unNil_wc, wc_nilIn, nats_zero, h0, h1, hm]
       refine hK _ _ ?_
       clear hK K)
    | (refine W_draw_k (by decide +kernel) ?_
       intro K hK
       simp (maxSteps := 2000000) (disch := omega) only [WL_cons_iff, WL_nil_iff, next_defer, next_val, next_skip, next_call, next_panic, wantedV, arr_toList, arr_get?, put, Option.bind_some, Option.map_some, Option.getD_some, Option.getD_none, Option.map_none, evOp_move, evOp_assign, evOp_pick, evOp_alloc, evOp_box, evOp_build, evOp_buildSlice, evOp_load, evOp_store, evOp_nilCheck, evOp_binOp, evOp_unOp, evOp_convert, evOp_makeInterface, evOp_makeFunc, evOp_makeSlice, evOp_slice, evOp_fieldAddr, evOp_field, evOp_indexAddr, evOp_index, evOp_extract, evOp_typeAssert, evOp_call, evOp_defer, evOp_panic, opd, ofValue, ofCell, Tm.get_setb, cond_true, cond_false, Nat.reduceBEq, ne_eq, Nat.reduceEqDiff, not_false_eq_true, ↓reduceIte, if_true, if_false, Option.isNone_none, Bool.and_self, Bool.and_true, beq_self_eq_true, filled_rs, filled_nilS, mapOpd, List.map_cons, List.map_nil, bin, intBin, un, idx, Go.Ev.builtin, calleeOf, List.getElem?_toArray, List.toList_toArray, filled_int, filled_bool, filled_str, filled_sl, filled_ifc, filled_nilI, filled_rs, filled_ptr, filled_fn, filled_nilS, snaps_nil, snaps_cons, snap_int, snap_bool, snap_str, snap_sl, snap_nilS, snap_ifc, snap_nilI, snap_rs, snap_ptr, snap_cptr, snap_fn, frzs_nil, frzs_cons, frz_int, frz_bool, frz_str, frz_sl, frz_nilS, frz_ifc, frz_nilI, frz_ptr, frz_cptr, frz_fn, frz_rs, unNil_int, unNil_bool, unNil_str, unNil_sl, unNil_ifc, unNil_nilI, unNil_ptr, unNil_fn, unNil_rs, unNil_nilS, Nat.lt_irrefl, V.isNilS, V.depthOk, depth1, V.ok1, setElem, Nat.zero_add, Nat.add_zero, Nat.mul_one, Nat.one_mul, Mem.newRef_eq, Mem.gen_nil, Mem.gen_new, Mem.gen_set, Mem.row_new, Mem.row_setW, Mem.new_out, Mem.set_out, List.length_nil, List.length_cons, Nat.zero_le, Nat.le_refl, Nat.reduceLeDiff, Nat.reduceAdd, and_self, and_true, true_and, List.set_cons_zero, List.set_cons_succ, false_and, and_false, or_false, false_or, or_true, true_or, List.any_cons, List.any_nil, Bool.or_false, Bool.false_or, Bool.or_true, Bool.true_or, List.isEmpty_nil, List.isEmpty_cons, refs_int, refs_bool, refs_str, refs_sl, refs_ifc, refs_nilI, refs_ptr, refs_rs, refs_fn, refs_agg, loose_int, loose_bool, loose_str, loose_sl, loose_ifc, loose_nilI, loose_nilS, loose_ptr, loose_rs, loose_fn, pick, Go.Ev.part, width_int, width_bool, width_str, width_sl, width_rs, width_nilS, width_nilI, width_ifc, width_ptr, width_cptr, width_fn, width_agg, V.isAgg, V.cells, Int.toNat_natCast, Nat.reduceAdd, Nat.reduceMul, Nat.reduceSub, Nat.reduceLeDiff, Nat.reduceBEq, Nat.reduceLT, Int.reduceAdd, Int.reduceSub, Int.reduceMul, Int.reduceLT, Int.reduceLE, Int.reduceToNat, Int.reduceNeg, ite_yes, beq_iff_eq, decide_eq_true_eq, List.nil_append, List.append_nil, Option.some.injEq, if_true, if_false, ite_true, ite_false, reduceIte, reduceCtorEq, Bool.false_eq_true, decide_true, decide_false, List.getElem?_cons_zero, List.getElem?_cons_succ, beq_self_eq_true, and_self, and_true, true_and, Bool.not_true, Bool.not_false, isConst, ↓reduceIte, WD_nil, WD_cons, nextD_val, nextD_skip, nextD_call, footD_def, fok_idle, Foot_none, foot_load, foot_store, foot_assign, foot_alloc, foot_box, foot_build, foot_makeSlice, foot_buildSlice, foot_makeFunc, foot_append, foot_len, foot_min, foot_max, foot_call, foot_move, foot_pick, foot_binOp, foot_unOp, foot_convert, foot_nilCheck, foot_makeInterface, foot_slice, foot_fieldAddr, foot_field, foot_indexAddr, foot_index, foot_extract, rowsOf_int, rowsOf_bool, rowsOf_str, rowsOf_sl, rowsOf_nilS, rowsOf_cptr, rowsOf_ifc, rowsOf_fn, rowsOf_ptr, rowsOf_rs, ptrs_int, ptrs_bool, ptrs_str, ptrs_sl, ptrs_rs, ptrs_nilS, ptrs_ifc, ptrs_ptr, ptrs_fn, List.flatMap_cons, List.flatMap_nil, List.any_cons, List.any_nil, Bool.or_false, Bool.false_or, Bool.or_true, Bool.true_or, List.isEmpty_nil, Bool.not_true, List.cons_append, List.nil_append, X_P, Tryd.underlying3, c3, b3, a3, k3, z3, Tryd.underlying4, c4, b4, a4, k4, z4, Tryd.underlying5, c5, b5, a5, k5, z5, Tryd.underlying9, c9, b9, a9, k9, z9, Tryd.underlying20, c20, b20, a20, k20, Tryd.underlying22, c22, b22, a22, k22, z22, e22, Tryd.underlying23, c23, b23, a23, k23, z23, Tryd.underlying32, c32, b32, a32, k32, z32, p32, Tryd.underlying45, c45, b45, a45, k45, z45, e45, Tryd.underlying54, c54, b54, a54, k54, z54, p54, Tryd.underlying61, c61, b61, a61, k61, z61, e61, Tryd.underlying64, c64, b64, a64, k64, z64, e64, Tryd.underlying69, c69, b69, a69, k69, z69, p69, Tryd.underlying76, c76, b76, a76, k76, z76, p76, Tryd.underlying84, c84, b84, a84, k84, z84, p84, Tryd.underlying94, c94, b94, a94, k94, z94, e94, Tryd.underlying95, c95, b95, a95, k95, z95, e95, Tryd.underlying98, c98, b98, a98, k98, z98, p98, Tryd.underlying100, c100, b100, a100, k100, z100, p100, Tryd.underlying116, c116, b116, a116, k116, z116, e116, Tryd.underlying119, c119, b119, a119, k119, z119, p119, Tryd.underlying142, c142, b142, a142, k142, z142, p142, Tryd.underlying143, c143, b143, a143, k143, z143, p143, Tryd.underlying152, c152, b152, a152, k152, z152, p152, Tryd.underlying154, c154, b154, a154, k154, z154, Tryd.underlying157, c157, b157, a157, k157, z157, e157, Tryd.underlying159, c159, b159, a159, k159, z159, p159, cut_one, cut_nats, nats_snoc, nats_length, nats_width, ints_width, maxLen_eq, appendTo, elemsOf, fillElems, elemOk, List.zip_cons_cons, List.zip_nil_left, List.zip_nil_right, List.replicate_one, List.all_cons, List.all_nil, Option.isSome_some, Nat.le_refl, List.length_append, List.map_cons, List.map_nil, Bool.and_true, Bool.true_and, bounds, loOf, hiOf, Bool.not_false, wc_length, wc_get, wc_splice, wc_loose, wc_nil, wc_zero, wc_take, filled_wc, snap_wc, frz_wc, rowsOf_wc, ptrs_wc, mv_wc, mv2_wc, depth_wc, unNil_wc, wc_nilIn, nats_zero, h0, h1, hm]
       repeat (refine ⟨by decide +kernel, ?_⟩)
       refine hK _ _ ?_
       clear hK K))
  refine W_loopg (fun (x : List Nat × Nat) s => s.dfs = [] ∧ s.m.out.length = 0 ∧ s.t.get 2 = .ptr ⟨0, 2, 0, 1⟩ 0 0 ∧ s.t.get 5 = .ptr ⟨0, 5, 0, 1⟩ 0 0 ∧ s.t.get 6 = .rs ⟨0, 13, 0, 1⟩ 3 0 ps.length ∧
    s.t.get 14 = .sl (nats ps) ∧ s.t.get 15 = vn ps.length ∧ s.t.get 16 = vn x.1.length ∧
    s.m.row ⟨0, 2, 0, 1⟩ = some ⟨1, 100, false, false, [wv (x.2 * 60 ^ 72)]⟩ ∧ s.m.row ⟨0, 5, 0, 1⟩ = some ⟨1, 100, false, false, [.agg (wc fun _ => 0)]⟩ ∧
    s.m.row ⟨0, 13, 0, 1⟩ = some ⟨1, 3, true, false, nats (x.1 ++ List.replicate (ps.length - x.1.length) 0)⟩ ∧ x.1.length ≤ ps.length ∧
    splitF ps N = (x.1 ++ (splitF (ps.drop x.1.length) x.2).1, (splitF (ps.drop x.1.length) x.2).2) ∧ 0 < x.2 ∧ x.2 < 60 ^ 90) (fun x => ps.length - x.1.length) ([], N) ?_ ?_
  · refine ⟨hd, ?_, ?_, ?_, ?_, ?_, ?_, ?_, ?_, ?_, ?_, Nat.zero_le _, by simp, hN, hb⟩
    all_goals (try simp (maxSteps := 2000000) (disch := omega) only [SO, ofValue, ofCell, Nat.reduceBEq, Nat.reduceEqDiff, ↓reduceIte, and_self, and_true, true_and, Mem.newRef_eq, Mem.gen_nil, Mem.gen_new, Mem.gen_set, Mem.row_new, Mem.row_setW, Mem.new_out, Mem.set_out, List.length_nil, List.length_cons, Nat.zero_le, Nat.le_refl, Nat.reduceLeDiff, Nat.reduceAdd, and_self, and_true, true_and, Nat.zero_add, SWx, h0, h1, hm])
    all_goals first | rfl | simp
  clear hd ho hm h0 h1 hN hb
  rintro ⟨done, C⟩ s ⟨hd, ho, h2, h5, h6, h14, h15, h16, r2, r5, r13, hle, hsp, hC0, hCb⟩
  dsimp only at h16 r2 r13 hle hsp hC0 hCb
  repeat (first
    | with_reducible first | refine W_seq ?_ | refine W_skip ?_ | refine W_label ?_ | refine W_ret ?_ | refine W_exit ?_ | refine W_block ?_ | refine thenI ?_ | refine thenRet ?_ | refine thenExit ?_ | refine blockRet ?_ | refine blockI ?_ | refine blockExit ?_ | refine blockExitNe rfl ?_
    | (with_reducible refine W_region_k ?_
       intro K hK
       simp (maxSteps := 2000000) (disch := omega) only [SA, ofValue, ofCell, bin, intBin, un, idx, Go.Ev.builtin, calleeOf, V.isNilS, V.depthOk, depth1, V.ok1, V.isAgg, V.cells, isConst, Nat.reduceBEq, Nat.reduceEqDiff, ↓reduceIte, Nat.reduceLeDiff, Nat.reduceAdd, Nat.reduceMul, Nat.reduceSub, Nat.reduceLT, Int.reduceAdd, Int.reduceSub, Int.reduceMul, Int.reduceLT, Int.reduceLE, Int.reduceToNat, Int.reduceNeg, reduceIte, reduceCtorEq, SPx, h14, h15, h16]
       refine hK _ _ ?_
       clear hK K)
    | (refine W_draw_k (by decide +kernel) ?_
       intro K hK
       simp (maxSteps := 2000000) (disch := omega) only [SA, ofValue, ofCell, bin, intBin, un, idx, Go.Ev.builtin, calleeOf, V.isNilS, V.depthOk, depth1, V.ok1, V.isAgg, V.cells, isConst, Nat.reduceBEq, Nat.reduceEqDiff, ↓reduceIte, Nat.reduceLeDiff, Nat.reduceAdd, Nat.reduceMul, Nat.reduceSub, Nat.reduceLT, Int.reduceAdd, Int.reduceSub, Int.reduceMul, Int.reduceLT, Int.reduceLE, Int.reduceToNat, Int.reduceNeg, reduceIte, reduceCtorEq, SD, SPx, h14, h15, h16]
       repeat (refine ⟨by decide +kernel, ?_⟩)
       refine hK _ _ ?_
       clear hK K))
  with_reducible refine W_cond2 (by simp only [SO, ofValue, ofCell, Nat.reduceBEq, Nat.reduceEqDiff, ↓reduceIte]; rfl) (fun h => ?_) (fun h => ?_)
  · have h := of_decide_eq_true h
    have hlt : done.length < ps.length := by omega
    obtain ⟨p, hp⟩ : ∃ p, ps[done.length]? = some p := ⟨ps[done.length], by simp⟩
    obtain ⟨hp1, hp2⟩ := hps p (List.mem_of_getElem? hp)
    have q1 := Q101 C p hCb (by omega) (by omega)
    have hdrop : ps.drop done.length = p :: ps.drop (done.length + 1) := by
      rw [List.drop_eq_getElem_cons hlt]
      congr 1
      rw [List.getElem?_eq_getElem hlt] at hp
      exact Option.some.inj hp
    rw [hdrop, splitF_cons] at hsp
    repeat (first
      | with_reducible first | refine W_seq ?_ | refine W_skip ?_ | refine W_label ?_ | refine W_ret ?_ | refine W_exit ?_ | refine W_block ?_ | refine thenI ?_ | refine thenRet ?_ | refine thenExit ?_ | refine blockRet ?_ | refine blockI ?_ | refine blockExit ?_ | refine blockExitNe rfl ?_
      | (with_reducible refine W_region_k ?_
         intro K hK
         simp (maxSteps := 2000000) (disch := omega) only [SA, ofValue, ofCell, bin, intBin, un, idx, Go.Ev.builtin, calleeOf, V.isNilS, V.depthOk, depth1, V.ok1, V.isAgg, V.cells, isConst, Nat.reduceBEq, Nat.reduceEqDiff, ↓reduceIte, Nat.reduceLeDiff, Nat.reduceAdd, Nat.reduceMul, Nat.reduceSub, Nat.reduceLT, Int.reduceAdd, Int.reduceSub, Int.reduceMul, Int.reduceLT, Int.reduceLE, Int.reduceToNat, Int.reduceNeg, reduceIte, reduceCtorEq, SPx, SSx, appendTo, elemsOf, SWx, nats_get?, hp, h2, h5, h6, h14, h15, h16, r2, r5, r13, ho, co101, sr101, q1.iff]
         refine hK _ _ ?_
         clear hK K)
      | (refine W_draw_k (by decide +kernel) ?_
         intro K hK
         simp (maxSteps := 2000000) (disch := omega) only [SA, ofValue, ofCell, bin, intBin, un, idx, Go.Ev.builtin, calleeOf, V.isNilS, V.depthOk, depth1, V.ok1, V.isAgg, V.cells, isConst, Nat.reduceBEq, Nat.reduceEqDiff, ↓reduceIte, Nat.reduceLeDiff, Nat.reduceAdd, Nat.reduceMul, Nat.reduceSub, Nat.reduceLT, Int.reduceAdd, Int.reduceSub, Int.reduceMul, Int.reduceLT, Int.reduceLE, Int.reduceToNat, Int.reduceNeg, reduceIte, reduceCtorEq, SD, SPx, SSx, appendTo, elemsOf, SWx, nats_get?, hp, h2, h5, h6, h14, h15, h16, r2, r5, r13, ho, co101, sr101, q1.iff]
         repeat (refine ⟨by decide +kernel, ?_⟩)
         refine hK _ _ ?_
         clear hK K))
    refine W_loopg (fun (x : Nat × Nat) s => s.dfs = [] ∧ s.m.out.length = 0 ∧ s.t.get 2 = .ptr ⟨0, 2, 0, 1⟩ 0 0 ∧ s.t.get 5 = .ptr ⟨0, 5, 0, 1⟩ 0 0 ∧ s.t.get 6 = .rs ⟨0, 13, 0, 1⟩ 3 0 ps.length ∧
      s.t.get 14 = .sl (nats ps) ∧ s.t.get 15 = vn ps.length ∧ s.t.get 16 = vn done.length ∧ s.t.get 7 = vn done.length ∧ s.t.get 8 = vn p ∧
      (∃ g, s.t.get 9 = .ptr ⟨0, 9, 0, g⟩ 0 0 ∧ s.m.row ⟨0, 9, 0, g⟩ = some ⟨g, 100, false, false, [wv (x.2 / p * 60 ^ 72)]⟩) ∧ s.t.get 10 = vn (x.2 % p) ∧
      s.m.row ⟨0, 2, 0, 1⟩ = some ⟨1, 100, false, false, [wv (x.2 * 60 ^ 72)]⟩ ∧ s.m.row ⟨0, 5, 0, 1⟩ = some ⟨1, 100, false, false, [.agg (wc fun _ => 0)]⟩ ∧
      s.m.row ⟨0, 13, 0, 1⟩ = some ⟨1, 3, true, false, nats (done ++ x.1 :: List.replicate (ps.length - (done.length + 1)) 0)⟩ ∧
      mult p C = x.1 + mult p x.2 ∧ rem p C = rem p x.2 ∧ 0 < x.2 ∧ x.2 < 60 ^ 90 ∧ C = x.2 * p ^ x.1) (fun x => x.2) (0, C) ?_ ?_
    · refine ⟨hd, ?_, ?_, ?_, ?_, ?_, ?_, ?_, ?_, ?_, ⟨s.m.gen 9 0 + 1, ?_, ?_⟩, ?_, ?_, ?_, ?_, by simp, rfl, hC0, hCb, by simp⟩
      all_goals (try simp (maxSteps := 2000000) (disch := omega) only [SO, ofValue, ofCell, Nat.reduceBEq, Nat.reduceEqDiff, ↓reduceIte, and_self, and_true, true_and, Mem.newRef_eq, Mem.gen_nil, Mem.gen_new, Mem.gen_set, Mem.row_new, Mem.row_setW, Mem.new_out, Mem.set_out, List.length_nil, List.length_cons, Nat.zero_le, Nat.le_refl, Nat.reduceLeDiff, Nat.reduceAdd, and_self, and_true, true_and, Nat.zero_add, SWx, h2, h5, h6, h14, h15, h16, r2, r5, r13, ho])
      rw [show ps.length - done.length = (ps.length - (done.length + 1)) + 1 by omega, List.replicate_succ]
    clear hd ho h2 h5 h6 h14 h15 h16 r2 r5 r13 q1
    rintro ⟨c, D⟩ s ⟨hd, ho, h2, h5, h6, h14, h15, h16, h7, h8, ⟨g, h9, r9⟩, h10, r2, r5, r13, hmu, hre, hD0, hDb, hCD⟩
    dsimp only at r9 h10 r2 r13 hmu hre hD0 hDb hCD
    repeat (first
      | with_reducible first | refine W_seq ?_ | refine W_skip ?_ | refine W_label ?_ | refine W_ret ?_ | refine W_exit ?_ | refine W_block ?_ | refine thenI ?_ | refine thenRet ?_ | refine thenExit ?_ | refine blockRet ?_ | refine blockI ?_ | refine blockExit ?_ | refine blockExitNe rfl ?_
      | (with_reducible refine W_region_k ?_
         intro K hK
         simp (maxSteps := 2000000) (disch := omega) only [SA, ofValue, ofCell, bin, intBin, un, idx, Go.Ev.builtin, calleeOf, V.isNilS, V.depthOk, depth1, V.ok1, V.isAgg, V.cells, isConst, Nat.reduceBEq, Nat.reduceEqDiff, ↓reduceIte, Nat.reduceLeDiff, Nat.reduceAdd, Nat.reduceMul, Nat.reduceSub, Nat.reduceLT, Int.reduceAdd, Int.reduceSub, Int.reduceMul, Int.reduceLT, Int.reduceLE, Int.reduceToNat, Int.reduceNeg, reduceIte, reduceCtorEq, SPx, h10]
         refine hK _ _ ?_
         clear hK K)
      | (refine W_draw_k (by decide +kernel) ?_
         intro K hK
         simp (maxSteps := 2000000) (disch := omega) only [SA, ofValue, ofCell, bin, intBin, un, idx, Go.Ev.builtin, calleeOf, V.isNilS, V.depthOk, depth1, V.ok1, V.isAgg, V.cells, isConst, Nat.reduceBEq, Nat.reduceEqDiff, ↓reduceIte, Nat.reduceLeDiff, Nat.reduceAdd, Nat.reduceMul, Nat.reduceSub, Nat.reduceLT, Int.reduceAdd, Int.reduceSub, Int.reduceMul, Int.reduceLT, Int.reduceLE, Int.reduceToNat, Int.reduceNeg, reduceIte, reduceCtorEq, SD, SPx, h10]
         repeat (refine ⟨by decide +kernel, ?_⟩)
         refine hK _ _ ?_
         clear hK K))
    with_reducible refine W_cond2 (by simp only [SO, ofValue, ofCell, Nat.reduceBEq, Nat.reduceEqDiff, ↓reduceIte]; rfl) (fun h => ?_) (fun h => ?_)
    · have h : D % p = 0 := by have h' := eq_of_beq h; omega
      have hDp0 : 0 < D / p := Nat.div_pos (Nat.le_of_dvd hD0 (Nat.dvd_of_mod_eq_zero h)) (by omega)
      have hDpb : D / p < 60 ^ 90 := Nat.lt_of_le_of_lt (Nat.div_le_self _ _) hDb
      have q2 := Q101 (D / p) p hDpb (by omega) (by omega)
      have hCe : C = D / p * p ^ (c + 1) := by
        rw [Nat.pow_succ, Nat.mul_comm (p ^ c), ← Nat.mul_assoc, Nat.div_mul_cancel (Nat.dvd_of_mod_eq_zero h)]; exact hCD
      have hc : c + 1 < 540 := by
        have g2 : p ^ (c + 1) ≤ C := by rw [hCe]; exact Nat.le_mul_of_pos_left _ hDp0
        have g3 := mult_bound 90 hp1 g2 hCb
        omega
      have hg : (done ++ c :: List.replicate (ps.length - (done.length + 1)) 0)[done.length]? = some c := by
        rw [List.getElem?_append_right (Nat.le_refl _), Nat.sub_self]; rfl
      have hset : (done ++ c :: List.replicate (ps.length - (done.length + 1)) 0).set done.length (c + 1) = done ++ (c + 1) :: List.replicate (ps.length - (done.length + 1)) 0 := by
        rw [List.set_append_right _ _ (Nat.le_refl _), Nat.sub_self]; rfl
      have hmu' := mult_yes hp1 hD0 h
      have hre' := rem_yes hp1 hD0 h
      clear hCD hsp hdrop hle
      repeat (first
        | with_reducible first | refine W_seq ?_ | refine W_skip ?_ | refine W_label ?_ | refine W_ret ?_ | refine W_exit ?_ | refine W_block ?_ | refine thenI ?_ | refine thenRet ?_ | refine thenExit ?_ | refine blockRet ?_ | refine blockI ?_ | refine blockExit ?_ | refine blockExitNe rfl ?_
        | (with_reducible refine W_region_k ?_
           intro K hK
           simp (maxSteps := 2000000) (disch := omega) only [SA, ofValue, ofCell, bin, intBin, un, idx, Go.Ev.builtin, calleeOf, V.isNilS, V.depthOk, depth1, V.ok1, V.isAgg, V.cells, isConst, Nat.reduceBEq, Nat.reduceEqDiff, ↓reduceIte, Nat.reduceLeDiff, Nat.reduceAdd, Nat.reduceMul, Nat.reduceSub, Nat.reduceLT, Int.reduceAdd, Int.reduceSub, Int.reduceMul, Int.reduceLT, Int.reduceLE, Int.reduceToNat, Int.reduceNeg, reduceIte, reduceCtorEq, SPx, SSx, appendTo, elemsOf, SWx, SCx, Int.reduceEq, nats_get?, nats_set, hg, hset, h2, h5, h6, h7, h8, h9, h10, r2, r5, r9, r13, ho, co101, sr101, q2.iff]
           refine hK _ _ ?_
           clear hK K)
        | (refine W_draw_k (by decide +kernel) ?_
           intro K hK
           simp (maxSteps := 2000000) (disch := omega) only [SA, ofValue, ofCell, bin, intBin, un, idx, Go.Ev.builtin, calleeOf, V.isNilS, V.depthOk, depth1, V.ok1, V.isAgg, V.cells, isConst, Nat.reduceBEq, Nat.reduceEqDiff, ↓reduceIte, Nat.reduceLeDiff, Nat.reduceAdd, Nat.reduceMul, Nat.reduceSub, Nat.reduceLT, Int.reduceAdd, Int.reduceSub, Int.reduceMul, Int.reduceLT, Int.reduceLE, Int.reduceToNat, Int.reduceNeg, reduceIte, reduceCtorEq, SD, SPx, SSx, appendTo, elemsOf, SWx, SCx, Int.reduceEq, nats_get?, nats_set, hg, hset, h2, h5, h6, h7, h8, h9, h10, r2, r5, r9, r13, ho, co101, sr101, q2.iff]
           repeat (refine ⟨by decide +kernel, ?_⟩)
           refine hK _ _ ?_
           clear hK K))
      refine ⟨(c + 1, D / p), ⟨hd, ?_, ?_, ?_, ?_, ?_, ?_, ?_, ?_, ?_, ⟨s.m.gen 9 0 + 1, ?_, ?_⟩, ?_, ?_, ?_, ?_, by dsimp only; omega, by dsimp only; rw [hre, hre'], hDp0, hDpb, hCe⟩, Nat.div_lt_self hD0 hp1⟩
      all_goals (try simp (maxSteps := 2000000) (disch := omega) only [SO, ofValue, ofCell, Nat.reduceBEq, Nat.reduceEqDiff, ↓reduceIte, and_self, and_true, true_and, Mem.newRef_eq, Mem.gen_nil, Mem.gen_new, Mem.gen_set, Mem.row_new, Mem.row_setW, Mem.new_out, Mem.set_out, List.length_nil, List.length_cons, Nat.zero_le, Nat.le_refl, Nat.reduceLeDiff, Nat.reduceAdd, and_self, and_true, true_and, Nat.zero_add, SWx, h2, h5, h6, h7, h8, h14, h15, h16, r5, ho, hset])
    · have h : D % p ≠ 0 := by have h' := ne_of_beq_false h; omega
      rw [mult_no h, Nat.add_zero] at hmu
      rw [rem_no h] at hre
      repeat (first
        | with_reducible first | refine W_seq ?_ | refine W_skip ?_ | refine W_label ?_ | refine W_ret ?_ | refine W_exit ?_ | refine W_block ?_ | refine thenI ?_ | refine thenRet ?_ | refine thenExit ?_ | refine blockRet ?_ | refine blockI ?_ | refine blockExit ?_ | refine blockExitNe rfl ?_
        | (with_reducible refine W_region_k ?_
           intro K hK
           simp (maxSteps := 2000000) (disch := omega) only [SA, ofValue, ofCell, bin, intBin, un, idx, Go.Ev.builtin, calleeOf, V.isNilS, V.depthOk, depth1, V.ok1, V.isAgg, V.cells, isConst, Nat.reduceBEq, Nat.reduceEqDiff, ↓reduceIte, Nat.reduceLeDiff, Nat.reduceAdd, Nat.reduceMul, Nat.reduceSub, Nat.reduceLT, Int.reduceAdd, Int.reduceSub, Int.reduceMul, Int.reduceLT, Int.reduceLE, Int.reduceToNat, Int.reduceNeg, reduceIte, reduceCtorEq, SPx, SCx, Int.reduceEq, h16]
           refine hK _ _ ?_
           clear hK K)
        | (refine W_draw_k (by decide +kernel) ?_
           intro K hK
           simp (maxSteps := 2000000) (disch := omega) only [SA, ofValue, ofCell, bin, intBin, un, idx, Go.Ev.builtin, calleeOf, V.isNilS, V.depthOk, depth1, V.ok1, V.isAgg, V.cells, isConst, Nat.reduceBEq, Nat.reduceEqDiff, ↓reduceIte, Nat.reduceLeDiff, Nat.reduceAdd, Nat.reduceMul, Nat.reduceSub, Nat.reduceLT, Int.reduceAdd, Int.reduceSub, Int.reduceMul, Int.reduceLT, Int.reduceLE, Int.reduceToNat, Int.reduceNeg, reduceIte, reduceCtorEq, SD, SPx, SCx, Int.reduceEq, h16]
           repeat (refine ⟨by decide +kernel, ?_⟩)
           refine hK _ _ ?_
           clear hK K))
      refine ⟨(done ++ [mult p C], rem p C), ⟨hd, ?_, ?_, ?_, ?_, ?_, ?_, ?_, ?_, ?_, ?_, ?_, ?_, ?_, ?_⟩, ?_⟩
      all_goals (try simp (maxSteps := 2000000) (disch := omega) only [SO, ofValue, ofCell, Nat.reduceBEq, Nat.reduceEqDiff, ↓reduceIte, and_self, and_true, true_and, Mem.newRef_eq, Mem.gen_nil, Mem.gen_new, Mem.gen_set, Mem.row_new, Mem.row_setW, Mem.new_out, Mem.set_out, List.length_nil, List.length_cons, Nat.zero_le, Nat.le_refl, Nat.reduceLeDiff, Nat.reduceAdd, and_self, and_true, true_and, Nat.zero_add, SWx, h2, h5, h6, h14, h15, h16, r2, r5, r13, ho, hmu, hre, List.length_append, List.length_cons, List.length_nil, Nat.zero_add, List.append_assoc, List.cons_append, List.nil_append])
      · omega
      · rw [hsp, hmu, hre]
      · exact hD0
      · exact hDb
      · omega
  · have h := of_decide_eq_false h
    have hdl : done.length = ps.length := by omega
    rw [List.drop_eq_nil_of_le (by omega)] at hsp
    simp only [splitF, List.append_nil] at hsp
    rw [hdl, Nat.sub_self, List.replicate_zero, List.append_nil] at r13
    have hcut : cut (nats done) 0 ps.length = nats done := by rw [← hdl]; exact cut_nats _
    rw [hsp]
    repeat (first
      | with_reducible first | refine W_seq ?_ | refine W_skip ?_ | refine W_label ?_ | refine W_ret ?_ | refine W_exit ?_ | refine W_block ?_ | refine thenI ?_ | refine thenRet ?_ | refine thenExit ?_ | refine blockRet ?_ | refine blockI ?_ | refine blockExit ?_ | refine blockExitNe rfl ?_
      | (with_reducible refine W_region_k ?_
         intro K hK
         simp (maxSteps := 2000000) (disch := omega) only [SA, ofValue, ofCell, bin, intBin, un, idx, Go.Ev.builtin, calleeOf, V.isNilS, V.depthOk, depth1, V.ok1, V.isAgg, V.cells, isConst, Nat.reduceBEq, Nat.reduceEqDiff, ↓reduceIte, Nat.reduceLeDiff, Nat.reduceAdd, Nat.reduceMul, Nat.reduceSub, Nat.reduceLT, Int.reduceAdd, Int.reduceSub, Int.reduceMul, Int.reduceLT, Int.reduceLE, Int.reduceToNat, Int.reduceNeg, reduceIte, reduceCtorEq, SPx, SAx, SSx, appendTo, elemsOf, SWx, h2, h5, h6, r2, r5, r13, ho, hdl, hcut]
         refine hK _ _ ?_
         clear hK K)
      | (refine W_draw_k (by decide +kernel) ?_
         intro K hK
         simp (maxSteps := 2000000) (disch := omega) only [SA, ofValue, ofCell, bin, intBin, un, idx, Go.Ev.builtin, calleeOf, V.isNilS, V.depthOk, depth1, V.ok1, V.isAgg, V.cells, isConst, Nat.reduceBEq, Nat.reduceEqDiff, ↓reduceIte, Nat.reduceLeDiff, Nat.reduceAdd, Nat.reduceMul, Nat.reduceSub, Nat.reduceLT, Int.reduceAdd, Int.reduceSub, Int.reduceMul, Int.reduceLT, Int.reduceLE, Int.reduceToNat, Int.reduceNeg, reduceIte, reduceCtorEq, SD, SPx, SAx, SSx, appendTo, elemsOf, SWx, h2, h5, h6, r2, r5, r13, ho, hdl, hcut]
         repeat (refine ⟨by decide +kernel, ?_⟩)
         refine hK _ _ ?_
         clear hK K))
    refine end_ret hd (by simp (maxSteps := 2000000) (disch := omega) only [Tryd.results87, resVars, resVar, SA, ofValue, ofCell, bin, intBin, un, idx, Go.Ev.builtin, calleeOf, V.isNilS, V.depthOk, depth1, V.ok1, V.isAgg, V.cells, isConst, Nat.reduceBEq, Nat.reduceEqDiff, ↓reduceIte, Nat.reduceLeDiff, Nat.reduceAdd, Nat.reduceMul, Nat.reduceSub, Nat.reduceLT, Int.reduceAdd, Int.reduceSub, Int.reduceMul, Int.reduceLT, Int.reduceLE, Int.reduceToNat, Int.reduceNeg, reduceIte, reduceCtorEq, SPx, SAx, SSx, appendTo, elemsOf, SWx, h2, h5, h6, r2, r5, r13, ho, hdl, hcut]; rfl) ?_
    simp (maxSteps := 2000000) (disch := omega) only [SA, ofValue, ofCell, bin, intBin, un, idx, Go.Ev.builtin, calleeOf, V.isNilS, V.depthOk, depth1, V.ok1, V.isAgg, V.cells, isConst, Nat.reduceBEq, Nat.reduceEqDiff, ↓reduceIte, Nat.reduceLeDiff, Nat.reduceAdd, Nat.reduceMul, Nat.reduceSub, Nat.reduceLT, Int.reduceAdd, Int.reduceSub, Int.reduceMul, Int.reduceLT, Int.reduceLE, Int.reduceToNat, Int.reduceNeg, reduceIte, reduceCtorEq, true_and, and_true, Nat.zero_add, Nat.le_refl, if_true, ↓reduceIte, resOf, X_own, mv_int, mv_bool, mv_str, mv_sl, mv_nilS, mv_tup, mv2s_nil, mv2s_cons, mv2_int, mv2_bool, mv2_str, mv2_sl, mv2_nilS, Option.map_some, vi, vn, SPx, SAx, SSx, appendTo, elemsOf, SWx, h2, h5, h6, r2, r5, r13, ho, hdl, hcut]
end Go.Proofs.YtpocekfifokndaaDoor
namespace Go.Proofs.YtpocekfifokndaaDoor
open Go Go.Ev Go.Pl
set_option maxRecDepth 100000
set_option maxHeartbeats 4000000
def regS (a : List Int) : Nat × Nat × Nat × Int :=
  if chk a ≠ 0 then (0, 0, 0, chk a) else if a.length = 0 then (0, 0, 0, 9) else
  if (splitF [2, 3, 5] (numI a)).2 ≠ 1 then (0, 0, 0, 31) else (mult 2 (numI a), mult 3 (rem 2 (numI a)), mult 5 (rem 3 (rem 2 (numI a))), 0)
theorem numI_pos {a : List Int} (h : chk a = 0) (hl : a.length ≠ 0) : 0 < numI a := by
  obtain ⟨h1, h2, h3, h4, h5⟩ := chk_ok h
  rcases Nat.eq_zero_or_pos (numI a) with h0 | h0
  · exfalso
    have hlt : ∀ d ∈ (natsOf a).reverse, d < 60 := fun d hd => h2 d (List.mem_reverse.1 hd)
    obtain ⟨d, hd⟩ : ∃ d, a[0]? = some d := ⟨a[0]'(by omega), by simp⟩
    have hn : (natsOf a)[0]? = some d.toNat := by rw [natsOf, List.getElem?_map, hd]; rfl
    have hdig := num_dig hlt (a.length - 1)
    rw [show numL (natsOf a).reverse = 0 from h0, List.getD_eq_getElem?_getD, List.getElem?_reverse (by omega), show (natsOf a).length - 1 - (a.length - 1) = 0 by omega, hn] at hdig
    have hz : d.toNat = 0 := by simpa [dig] using hdig.symm
    have hne := (h5 (by omega)).1
    have hd0 : d ≠ 0 := fun e => hne (by rw [hd, e])
    have hdi : ints a = nats (natsOf a) := h1
    have := congrArg (fun l => l[0]?) hdi
    simp only [ints_get?, nats_get?, hd, hn, Option.map_some, Option.some.injEq, V.int.injEq, true_and] at this
    omega
  · exact h0
theorem cut3 (a b c : V) : cut [a, b, c] 0 3 = [a, b, c] := rfl
theorem rep3 (v : V) : List.replicate 3 v = [v, v, v] := rfl
theorem P31 (a : List Int) : Ans X 31 [.sl (ints a)] (.ret (.tup [vn (regS a).1, vn (regS a).2.1, vn (regS a).2.2.1, vi (regS a).2.2.2])) := by
  refine call_of_X (fn := Tryd.f31) 1 Tryd.func31 rfl (by decide +kernel) rfl ?_ ?_ ?_ ?_
  · rfl
  · exact fun _ => rfl
  · intro v hv; injection hv with hv; subst hv; rfl
  intro s hs hd ho
  have hm : s.m = ⟨.nil, []⟩ := by subst hs; rfl
  have h0 : s.t.get 0 = .sl (ints a) := by subst hs; rfl
  clear hs
  repeat (first
    | with_reducible first | refine W_seq ?_ | refine W_skip ?_ | refine W_label ?_ | refine W_ret ?_ | refine W_exit ?_ | refine W_block ?_ | refine thenI ?_ | refine thenRet ?_ | refine thenExit ?_ | refine blockRet ?_ | refine blockI ?_ | refine blockExit ?_ | refine blockExitNe rfl ?_
    | (with_reducible refine W_region_k ?_
       intro K hK
       simp (maxSteps := 2000000) (disch := omega) only [SA, ofValue, ofCell, bin, intBin, un, idx, Go.Ev.builtin, calleeOf, V.isNilS, V.depthOk, depth1, V.ok1, V.isAgg, V.cells, isConst, Nat.reduceBEq, Nat.reduceEqDiff, ↓reduceIte, Nat.reduceLeDiff, Nat.reduceAdd, Nat.reduceMul, Nat.reduceSub, Nat.reduceLT, Int.reduceAdd, Int.reduceSub, Int.reduceMul, Int.reduceLT, Int.reduceLE, Int.reduceToNat, Int.reduceNeg, reduceIte, reduceCtorEq, SPx, h0, hm, co28, sr28, (P28 a).iff]
       refine hK _ _ ?_
       clear hK K)
    | (refine W_draw_k (by decide +kernel) ?_
       intro K hK
       simp (maxSteps := 2000000) (disch := omega) only [SA, ofValue, ofCell, bin, intBin, un, idx, Go.Ev.builtin, calleeOf, V.isNilS, V.depthOk, depth1, V.ok1, V.isAgg, V.cells, isConst, Nat.reduceBEq, Nat.reduceEqDiff, ↓reduceIte, Nat.reduceLeDiff, Nat.reduceAdd, Nat.reduceMul, Nat.reduceSub, Nat.reduceLT, Int.reduceAdd, Int.reduceSub, Int.reduceMul, Int.reduceLT, Int.reduceLE, Int.reduceToNat, Int.reduceNeg, reduceIte, reduceCtorEq, SD, SPx, h0, hm, co28, sr28, (P28 a).iff]
       repeat (refine ⟨by decide +kernel, ?_⟩)
       refine hK _ _ ?_
       clear hK K))
  with_reducible refine W_cond2 (by simp only [SO, ofValue, ofCell, Nat.reduceBEq, Nat.reduceEqDiff, ↓reduceIte]; rfl) (fun h => ?_) (fun h => ?_)
  · have h : chk a ≠ 0 := by simpa using h
    repeat (first
      | with_reducible first | refine W_seq ?_ | refine W_skip ?_ | refine W_label ?_ | refine W_ret ?_ | refine W_exit ?_ | refine W_block ?_ | refine thenI ?_ | refine thenRet ?_ | refine thenExit ?_ | refine blockRet ?_ | refine blockI ?_ | refine blockExit ?_ | refine blockExitNe rfl ?_
      | (with_reducible refine W_region_k ?_
         intro K hK
         simp (maxSteps := 2000000) (disch := omega) only [SA, ofValue, ofCell, bin, intBin, un, idx, Go.Ev.builtin, calleeOf, V.isNilS, V.depthOk, depth1, V.ok1, V.isAgg, V.cells, isConst, Nat.reduceBEq, Nat.reduceEqDiff, ↓reduceIte, Nat.reduceLeDiff, Nat.reduceAdd, Nat.reduceMul, Nat.reduceSub, Nat.reduceLT, Int.reduceAdd, Int.reduceSub, Int.reduceMul, Int.reduceLT, Int.reduceLE, Int.reduceToNat, Int.reduceNeg, reduceIte, reduceCtorEq, SPx]
         refine hK _ _ ?_
         clear hK K)
      | (refine W_draw_k (by decide +kernel) ?_
         intro K hK
         simp (maxSteps := 2000000) (disch := omega) only [SA, ofValue, ofCell, bin, intBin, un, idx, Go.Ev.builtin, calleeOf, V.isNilS, V.depthOk, depth1, V.ok1, V.isAgg, V.cells, isConst, Nat.reduceBEq, Nat.reduceEqDiff, ↓reduceIte, Nat.reduceLeDiff, Nat.reduceAdd, Nat.reduceMul, Nat.reduceSub, Nat.reduceLT, Int.reduceAdd, Int.reduceSub, Int.reduceMul, Int.reduceLT, Int.reduceLE, Int.reduceToNat, Int.reduceNeg, reduceIte, reduceCtorEq, SD, SPx]
         repeat (refine ⟨by decide +kernel, ?_⟩)
         refine hK _ _ ?_
         clear hK K))
    refine end_ret hd (by simp (maxSteps := 2000000) (disch := omega) only [Tryd.results31, resVars, resVar, SA, ofValue, ofCell, bin, intBin, un, idx, Go.Ev.builtin, calleeOf, V.isNilS, V.depthOk, depth1, V.ok1, V.isAgg, V.cells, isConst, Nat.reduceBEq, Nat.reduceEqDiff, ↓reduceIte, Nat.reduceLeDiff, Nat.reduceAdd, Nat.reduceMul, Nat.reduceSub, Nat.reduceLT, Int.reduceAdd, Int.reduceSub, Int.reduceMul, Int.reduceLT, Int.reduceLE, Int.reduceToNat, Int.reduceNeg, reduceIte, reduceCtorEq, SPx]; rfl) ?_
    simp (maxSteps := 2000000) (disch := omega) only [SA, ofValue, ofCell, bin, intBin, un, idx, Go.Ev.builtin, calleeOf, V.isNilS, V.depthOk, depth1, V.ok1, V.isAgg, V.cells, isConst, Nat.reduceBEq, Nat.reduceEqDiff, ↓reduceIte, Nat.reduceLeDiff, Nat.reduceAdd, Nat.reduceMul, Nat.reduceSub, Nat.reduceLT, Int.reduceAdd, Int.reduceSub, Int.reduceMul, Int.reduceLT, Int.reduceLE, Int.reduceToNat, Int.reduceNeg, reduceIte, reduceCtorEq, true_and, and_true, Nat.zero_add, Nat.le_refl, if_true, ↓reduceIte, resOf, X_own, mv_int, mv_bool, mv_str, mv_sl, mv_nilS, mv_tup, mv2s_nil, mv2s_cons, mv2_int, mv2_bool, mv2_str, mv2_sl, mv2_nilS, Option.map_some, vi, vn, SPx]
    rw [regS, if_pos h]; rfl
  have hc : chk a = 0 := by simpa using h
  repeat (first
    | with_reducible first | refine W_seq ?_ | refine W_skip ?_ | refine W_label ?_ | refine W_ret ?_ | refine W_exit ?_ | refine W_block ?_ | refine thenI ?_ | refine thenRet ?_ | refine thenExit ?_ | refine blockRet ?_ | refine blockI ?_ | refine blockExit ?_ | refine blockExitNe rfl ?_
    | (with_reducible refine W_region_k ?_
       intro K hK
       simp (maxSteps := 2000000) (disch := omega) only [SA, ofValue, ofCell, bin, intBin, un, idx, Go.Ev.builtin, calleeOf, V.isNilS, V.depthOk, depth1, V.ok1, V.isAgg, V.cells, isConst, Nat.reduceBEq, Nat.reduceEqDiff, ↓reduceIte, Nat.reduceLeDiff, Nat.reduceAdd, Nat.reduceMul, Nat.reduceSub, Nat.reduceLT, Int.reduceAdd, Int.reduceSub, Int.reduceMul, Int.reduceLT, Int.reduceLE, Int.reduceToNat, Int.reduceNeg, reduceIte, reduceCtorEq, SPx, h0, hm, ints_length]
       refine hK _ _ ?_
       clear hK K)
    | (refine W_draw_k (by decide +kernel) ?_
       intro K hK
       simp (maxSteps := 2000000) (disch := omega) only [SA, ofValue, ofCell, bin, intBin, un, idx, Go.Ev.builtin, calleeOf, V.isNilS, V.depthOk, depth1, V.ok1, V.isAgg, V.cells, isConst, Nat.reduceBEq, Nat.reduceEqDiff, ↓reduceIte, Nat.reduceLeDiff, Nat.reduceAdd, Nat.reduceMul, Nat.reduceSub, Nat.reduceLT, Int.reduceAdd, Int.reduceSub, Int.reduceMul, Int.reduceLT, Int.reduceLE, Int.reduceToNat, Int.reduceNeg, reduceIte, reduceCtorEq, SD, SPx, h0, hm, ints_length]
       repeat (refine ⟨by decide +kernel, ?_⟩)
       refine hK _ _ ?_
       clear hK K))
  with_reducible refine W_cond2 (by simp only [SO, ofValue, ofCell, Nat.reduceBEq, Nat.reduceEqDiff, ↓reduceIte]; rfl) (fun h => ?_) (fun h => ?_)
  · have h : a.length = 0 := by have h' := eq_of_beq h; omega
    repeat (first
      | with_reducible first | refine W_seq ?_ | refine W_skip ?_ | refine W_label ?_ | refine W_ret ?_ | refine W_exit ?_ | refine W_block ?_ | refine thenI ?_ | refine thenRet ?_ | refine thenExit ?_ | refine blockRet ?_ | refine blockI ?_ | refine blockExit ?_ | refine blockExitNe rfl ?_
      | (with_reducible refine W_region_k ?_
         intro K hK
         simp (maxSteps := 2000000) (disch := omega) only [SA, ofValue, ofCell, bin, intBin, un, idx, Go.Ev.builtin, calleeOf, V.isNilS, V.depthOk, depth1, V.ok1, V.isAgg, V.cells, isConst, Nat.reduceBEq, Nat.reduceEqDiff, ↓reduceIte, Nat.reduceLeDiff, Nat.reduceAdd, Nat.reduceMul, Nat.reduceSub, Nat.reduceLT, Int.reduceAdd, Int.reduceSub, Int.reduceMul, Int.reduceLT, Int.reduceLE, Int.reduceToNat, Int.reduceNeg, reduceIte, reduceCtorEq, SPx]
         refine hK _ _ ?_
         clear hK K)
      | (refine W_draw_k (by decide +kernel) ?_
         intro K hK
         simp (maxSteps := 2000000) (disch := omega) only [SA, ofValue, ofCell, bin, intBin, un, idx, Go.Ev.builtin, calleeOf, V.isNilS, V.depthOk, depth1, V.ok1, V.isAgg, V.cells, isConst, Nat.reduceBEq, Nat.reduceEqDiff, ↓reduceIte, Nat.reduceLeDiff, Nat.reduceAdd, Nat.reduceMul, Nat.reduceSub, Nat.reduceLT, Int.reduceAdd, Int.reduceSub, Int.reduceMul, Int.reduceLT, Int.reduceLE, Int.reduceToNat, Int.reduceNeg, reduceIte, reduceCtorEq, SD, SPx]
         repeat (refine ⟨by decide +kernel, ?_⟩)
         refine hK _ _ ?_
         clear hK K))
    refine end_ret hd (by simp (maxSteps := 2000000) (disch := omega) only [Tryd.results31, resVars, resVar, SA, ofValue, ofCell, bin, intBin, un, idx, Go.Ev.builtin, calleeOf, V.isNilS, V.depthOk, depth1, V.ok1, V.isAgg, V.cells, isConst, Nat.reduceBEq, Nat.reduceEqDiff, ↓reduceIte, Nat.reduceLeDiff, Nat.reduceAdd, Nat.reduceMul, Nat.reduceSub, Nat.reduceLT, Int.reduceAdd, Int.reduceSub, Int.reduceMul, Int.reduceLT, Int.reduceLE, Int.reduceToNat, Int.reduceNeg, reduceIte, reduceCtorEq, SPx]; rfl) ?_
    simp (maxSteps := 2000000) (disch := omega) only [SA, ofValue, ofCell, bin, intBin, un, idx, Go.Ev.builtin, calleeOf, V.isNilS, V.depthOk, depth1, V.ok1, V.isAgg, V.cells, isConst, Nat.reduceBEq, Nat.reduceEqDiff, ↓reduceIte, Nat.reduceLeDiff, Nat.reduceAdd, Nat.reduceMul, Nat.reduceSub, Nat.reduceLT, Int.reduceAdd, Int.reduceSub, Int.reduceMul, Int.reduceLT, Int.reduceLE, Int.reduceToNat, Int.reduceNeg, reduceIte, reduceCtorEq, true_and, and_true, Nat.zero_add, Nat.le_refl, if_true, ↓reduceIte, resOf, X_own, mv_int, mv_bool, mv_str, mv_sl, mv_nilS, mv_tup, mv2s_nil, mv2s_cons, mv2_int, mv2_bool, mv2_str, mv2_sl, mv2_nilS, Option.map_some, vi, vn, SPx]
    rw [regS, if_neg (fun e => e hc), if_pos h]; rfl
  have hl : a.length ≠ 0 := by have h' := ne_of_beq_false h; omega
  obtain ⟨b1, b2, b3, b4, _⟩ := chk_ok hc
  rw [b1] at h0
  have hN := numI_pos hc hl
  have hb := numI_lt hc
  have q1 : Ans X 86 [.sl (nats (natsOf a)), vi 0] (.ret (wv (numI a * 60 ^ 72))) := P86 (natsOf a) 0 72 rfl b2 (by omega)
  have q2 : Ans X 87 [wv (numI a * 60 ^ 72), .sl [vi 2, vi 3, vi 5]] _ := P87 [2, 3, 5] (numI a) (by intro p hp; simp at hp; omega) (by decide) hN (lt_pow_mono hb (by decide))
  have q3 : Ans X 88 [vi 1] (.ret (wv (1 * 60 ^ 72))) := P88 1 (by decide)
  have hR : (splitF [2, 3, 5] (numI a)).2 ≤ numI a := by
    simp only [splitF]
    exact Nat.le_trans (rem_le _ _) (Nat.le_trans (rem_le _ _) (rem_le _ _))
  have hT : (splitF [2, 3, 5] (numI a)).1 = [mult 2 (numI a), mult 3 (rem 2 (numI a)), mult 5 (rem 3 (rem 2 (numI a)))] := rfl
  rw [hT] at q2
  clear h b1 b2 b3 b4
  have hRb : (splitF [2, 3, 5] (numI a)).2 < 60 ^ 16 := Nat.lt_of_le_of_lt hR hb
  generalize hRe : (splitF [2, 3, 5] (numI a)).2 = R at q2 hRb
  have hE : allEq (dig (R * 60 ^ 72)) (dig (1 * 60 ^ 72)) 168 0 = decide (R = 1) := by
    rw [allEq_dig (by
      calc R * 60 ^ 72 < 60 ^ 16 * 60 ^ 72 := Nat.mul_lt_mul_of_pos_right hRb (by decide)
        _ ≤ 60 ^ 168 := by decide) (by decide)]
    rw [decide_eq_decide, Nat.one_mul]
    constructor
    · intro e
      have e' : R * 60 ^ 72 = 1 * 60 ^ 72 := by rw [Nat.one_mul]; exact e
      exact Nat.eq_of_mul_eq_mul_right (pow_pos 72) e'
    · rintro rfl; rw [Nat.one_mul]
  rw [show (1 * 60 ^ 72 : Nat) = 60 ^ 72 from Nat.one_mul _] at hE q3
  clear hR hb hN
  repeat (first
    | with_reducible first | refine W_seq ?_ | refine W_skip ?_ | refine W_label ?_ | refine W_ret ?_ | refine W_exit ?_ | refine W_block ?_ | refine thenI ?_ | refine thenRet ?_ | refine thenExit ?_ | refine blockRet ?_ | refine blockI ?_ | refine blockExit ?_ | refine blockExitNe rfl ?_
    | (with_reducible refine W_region_k ?_
       intro K hK
       simp (maxSteps := 2000000) (disch := omega) only [SA, ofValue, ofCell, bin, intBin, un, idx, Go.Ev.builtin, calleeOf, V.isNilS, V.depthOk, depth1, V.ok1, V.isAgg, V.cells, isConst, Nat.reduceBEq, Nat.reduceEqDiff, ↓reduceIte, Nat.reduceLeDiff, Nat.reduceAdd, Nat.reduceMul, Nat.reduceSub, Nat.reduceLT, Int.reduceAdd, Int.reduceSub, Int.reduceMul, Int.reduceLT, Int.reduceLE, Int.reduceToNat, Int.reduceNeg, reduceIte, reduceCtorEq, SPx, SSx, appendTo, elemsOf, SWx, h0, hm, rep3, cut3, ints_length, co86, sr86, co87, sr87, co88, sr88, q1.iff, q2.iff, q3.iff, eqOk100, eqT100, hE]
       refine hK _ _ ?_
       clear hK K)
    | (refine W_draw_k (by decide +kernel) ?_
       intro K hK
       simp (maxSteps := 2000000) (disch := omega) only [SA, ofValue, ofCell, bin, intBin, un, idx, Go.Ev.builtin, calleeOf, V.isNilS, V.depthOk, depth1, V.ok1, V.isAgg, V.cells, isConst, Nat.reduceBEq, Nat.reduceEqDiff, ↓reduceIte, Nat.reduceLeDiff, Nat.reduceAdd, Nat.reduceMul, Nat.reduceSub, Nat.reduceLT, Int.reduceAdd, Int.reduceSub, Int.reduceMul, Int.reduceLT, Int.reduceLE, Int.reduceToNat, Int.reduceNeg, reduceIte, reduceCtorEq, SD, SPx, SSx, appendTo, elemsOf, SWx, h0, hm, rep3, cut3, ints_length, co86, sr86, co87, sr87, co88, sr88, q1.iff, q2.iff, q3.iff, eqOk100, eqT100, hE]
       repeat (refine ⟨by decide +kernel, ?_⟩)
       refine hK _ _ ?_
       clear hK K))
  with_reducible refine W_cond2 (by simp only [SO, ofValue, ofCell, Nat.reduceBEq, Nat.reduceEqDiff, ↓reduceIte]; rfl) (fun h => ?_) (fun h => ?_)
  · have h : R ≠ 1 := by simpa using h
    repeat (first
      | with_reducible first | refine W_seq ?_ | refine W_skip ?_ | refine W_label ?_ | refine W_ret ?_ | refine W_exit ?_ | refine W_block ?_ | refine thenI ?_ | refine thenRet ?_ | refine thenExit ?_ | refine blockRet ?_ | refine blockI ?_ | refine blockExit ?_ | refine blockExitNe rfl ?_
      | (with_reducible refine W_region_k ?_
         intro K hK
         simp (maxSteps := 2000000) (disch := omega) only [SA, ofValue, ofCell, bin, intBin, un, idx, Go.Ev.builtin, calleeOf, V.isNilS, V.depthOk, depth1, V.ok1, V.isAgg, V.cells, isConst, Nat.reduceBEq, Nat.reduceEqDiff, ↓reduceIte, Nat.reduceLeDiff, Nat.reduceAdd, Nat.reduceMul, Nat.reduceSub, Nat.reduceLT, Int.reduceAdd, Int.reduceSub, Int.reduceMul, Int.reduceLT, Int.reduceLE, Int.reduceToNat, Int.reduceNeg, reduceIte, reduceCtorEq, SPx]
         refine hK _ _ ?_
         clear hK K)
      | (refine W_draw_k (by decide +kernel) ?_
         intro K hK
         simp (maxSteps := 2000000) (disch := omega) only [SA, ofValue, ofCell, bin, intBin, un, idx, Go.Ev.builtin, calleeOf, V.isNilS, V.depthOk, depth1, V.ok1, V.isAgg, V.cells, isConst, Nat.reduceBEq, Nat.reduceEqDiff, ↓reduceIte, Nat.reduceLeDiff, Nat.reduceAdd, Nat.reduceMul, Nat.reduceSub, Nat.reduceLT, Int.reduceAdd, Int.reduceSub, Int.reduceMul, Int.reduceLT, Int.reduceLE, Int.reduceToNat, Int.reduceNeg, reduceIte, reduceCtorEq, SD, SPx]
         repeat (refine ⟨by decide +kernel, ?_⟩)
         refine hK _ _ ?_
         clear hK K))
    refine end_ret hd (by simp (maxSteps := 2000000) (disch := omega) only [Tryd.results31, resVars, resVar, SA, ofValue, ofCell, bin, intBin, un, idx, Go.Ev.builtin, calleeOf, V.isNilS, V.depthOk, depth1, V.ok1, V.isAgg, V.cells, isConst, Nat.reduceBEq, Nat.reduceEqDiff, ↓reduceIte, Nat.reduceLeDiff, Nat.reduceAdd, Nat.reduceMul, Nat.reduceSub, Nat.reduceLT, Int.reduceAdd, Int.reduceSub, Int.reduceMul, Int.reduceLT, Int.reduceLE, Int.reduceToNat, Int.reduceNeg, reduceIte, reduceCtorEq, SPx]; rfl) ?_
    simp (maxSteps := 2000000) (disch := omega) only [SA, ofValue, ofCell, bin, intBin, un, idx, Go.Ev.builtin, calleeOf, V.isNilS, V.depthOk, depth1, V.ok1, V.isAgg, V.cells, isConst, Nat.reduceBEq, Nat.reduceEqDiff, ↓reduceIte, Nat.reduceLeDiff, Nat.reduceAdd, Nat.reduceMul, Nat.reduceSub, Nat.reduceLT, Int.reduceAdd, Int.reduceSub, Int.reduceMul, Int.reduceLT, Int.reduceLE, Int.reduceToNat, Int.reduceNeg, reduceIte, reduceCtorEq, true_and, and_true, Nat.zero_add, Nat.le_refl, if_true, ↓reduceIte, resOf, X_own, mv_int, mv_bool, mv_str, mv_sl, mv_nilS, mv_tup, mv2s_nil, mv2s_cons, mv2_int, mv2_bool, mv2_str, mv2_sl, mv2_nilS, Option.map_some, vi, vn, SPx]
    rw [regS, if_neg (fun e => e hc), if_neg hl, if_pos (by rw [hRe]; exact h)]; rfl
  · have h : R = 1 := by simpa using h
    repeat (first
      | with_reducible first | refine W_seq ?_ | refine W_skip ?_ | refine W_label ?_ | refine W_ret ?_ | refine W_exit ?_ | refine W_block ?_ | refine thenI ?_ | refine thenRet ?_ | refine thenExit ?_ | refine blockRet ?_ | refine blockI ?_ | refine blockExit ?_ | refine blockExitNe rfl ?_
      | (with_reducible refine W_region_k ?_
         intro K hK
         simp (maxSteps := 2000000) (disch := omega) only [SA, ofValue, ofCell, bin, intBin, un, idx, Go.Ev.builtin, calleeOf, V.isNilS, V.depthOk, depth1, V.ok1, V.isAgg, V.cells, isConst, Nat.reduceBEq, Nat.reduceEqDiff, ↓reduceIte, Nat.reduceLeDiff, Nat.reduceAdd, Nat.reduceMul, Nat.reduceSub, Nat.reduceLT, Int.reduceAdd, Int.reduceSub, Int.reduceMul, Int.reduceLT, Int.reduceLE, Int.reduceToNat, Int.reduceNeg, reduceIte, reduceCtorEq, SPx, SSx, appendTo, elemsOf, nats_get?]
         refine hK _ _ ?_
         clear hK K)
      | (refine W_draw_k (by decide +kernel) ?_
         intro K hK
         simp (maxSteps := 2000000) (disch := omega) only [SA, ofValue, ofCell, bin, intBin, un, idx, Go.Ev.builtin, calleeOf, V.isNilS, V.depthOk, depth1, V.ok1, V.isAgg, V.cells, isConst, Nat.reduceBEq, Nat.reduceEqDiff, ↓reduceIte, Nat.reduceLeDiff, Nat.reduceAdd, Nat.reduceMul, Nat.reduceSub, Nat.reduceLT, Int.reduceAdd, Int.reduceSub, Int.reduceMul, Int.reduceLT, Int.reduceLE, Int.reduceToNat, Int.reduceNeg, reduceIte, reduceCtorEq, SD, SPx, SSx, appendTo, elemsOf, nats_get?]
         repeat (refine ⟨by decide +kernel, ?_⟩)
         refine hK _ _ ?_
         clear hK K))
    refine end_ret hd (by simp (maxSteps := 2000000) (disch := omega) only [Tryd.results31, resVars, resVar, SA, ofValue, ofCell, bin, intBin, un, idx, Go.Ev.builtin, calleeOf, V.isNilS, V.depthOk, depth1, V.ok1, V.isAgg, V.cells, isConst, Nat.reduceBEq, Nat.reduceEqDiff, ↓reduceIte, Nat.reduceLeDiff, Nat.reduceAdd, Nat.reduceMul, Nat.reduceSub, Nat.reduceLT, Int.reduceAdd, Int.reduceSub, Int.reduceMul, Int.reduceLT, Int.reduceLE, Int.reduceToNat, Int.reduceNeg, reduceIte, reduceCtorEq, SPx]; rfl) ?_
    simp (maxSteps := 2000000) (disch := omega) only [SA, ofValue, ofCell, bin, intBin, un, idx, Go.Ev.builtin, calleeOf, V.isNilS, V.depthOk, depth1, V.ok1, V.isAgg, V.cells, isConst, Nat.reduceBEq, Nat.reduceEqDiff, ↓reduceIte, Nat.reduceLeDiff, Nat.reduceAdd, Nat.reduceMul, Nat.reduceSub, Nat.reduceLT, Int.reduceAdd, Int.reduceSub, Int.reduceMul, Int.reduceLT, Int.reduceLE, Int.reduceToNat, Int.reduceNeg, reduceIte, reduceCtorEq, true_and, and_true, Nat.zero_add, Nat.le_refl, if_true, ↓reduceIte, resOf, X_own, mv_int, mv_bool, mv_str, mv_sl, mv_nilS, mv_tup, mv2s_nil, mv2s_cons, mv2_int, mv2_bool, mv2_str, mv2_sl, mv2_nilS, Option.map_some, vi, vn, SPx]
    rw [regS, if_neg (fun e => e hc), if_neg hl, if_neg (by rw [hRe]; exact fun e => e h)]
end Go.Proofs.YtpocekfifokndaaDoor
namespace Go.Proofs.YtpocekfifokndaaDoor
open Go Go.Ev Go.Pl
set_option maxRecDepth 100000
set_option maxHeartbeats 4000000
theorem P89 (i j k : Nat) (hi : i < 200) (hj : j < 200) (hk : k < 200) (hb : invW i j k < 60 ^ 90) (o1 oM : Go.Ev.Rows) (r : Res) (hr : placeRes (invW i j k * 60 ^ 72) = r)
    (R : Res) (hR : (∃ es sh, r = .ret (.agg [.sl (nats es), vi sh]) ∧ R = .ret (.sl (nats es))) ∨ (∃ e, r = .panic (.ifc 23 (vi e)) ∧ R = .panic (.ifc 23 (vi e))))
    (hA : (⟨oM, []⟩ : Mem).row ⟨0, 4, 0, 1⟩ = some ⟨1, 3, false, false, [vn i]⟩) (hB : (⟨oM, []⟩ : Mem).row ⟨0, 5, 0, 1⟩ = some ⟨1, 3, false, false, [vn j]⟩) (hC : (⟨oM, []⟩ : Mem).row ⟨0, 6, 0, 1⟩ = some ⟨1, 3, false, false, [vn k]⟩) :
    AnsAt X 89 [.ptr ⟨0, 4, 0, 1⟩ 0 0, .ptr ⟨0, 5, 0, 1⟩ 0 0, .ptr ⟨0, 6, 0, 1⟩ 0 0] [o1, oM] R := by
  refine ⟨rfl, rfl, fun v hv => ?_, ?_⟩
  · rcases hR with ⟨es, sh, _, rfl⟩ | ⟨e, _, rfl⟩
    · injection hv with hv; subst hv; rfl
    · cases hv
  refine runsAt_of (X := X) (fn := Tryd.f89) Tryd.func89 rfl ⟨by decide +kernel, Nat.le_of_ble_eq_true rfl⟩ ?_
  have hd : (enter [V.ptr ⟨0, 4, 0, 1⟩ 0 0, V.ptr ⟨0, 5, 0, 1⟩ 0 0, V.ptr ⟨0, 6, 0, 1⟩ 0 0] [o1, oM]).dfs = [] := rfl
  have h0 : (enter [V.ptr ⟨0, 4, 0, 1⟩ 0 0, V.ptr ⟨0, 5, 0, 1⟩ 0 0, V.ptr ⟨0, 6, 0, 1⟩ 0 0] [o1, oM]).t.get 0 = .ptr ⟨0, 4, 0, 1⟩ 0 0 := rfl
  have h1 : (enter [V.ptr ⟨0, 4, 0, 1⟩ 0 0, V.ptr ⟨0, 5, 0, 1⟩ 0 0, V.ptr ⟨0, 6, 0, 1⟩ 0 0] [o1, oM]).t.get 1 = .ptr ⟨0, 5, 0, 1⟩ 0 0 := rfl
  have h2 : (enter [V.ptr ⟨0, 4, 0, 1⟩ 0 0, V.ptr ⟨0, 5, 0, 1⟩ 0 0, V.ptr ⟨0, 6, 0, 1⟩ 0 0] [o1, oM]).t.get 2 = .ptr ⟨0, 6, 0, 1⟩ 0 0 := rfl
  have hm : (enter [V.ptr ⟨0, 4, 0, 1⟩ 0 0, V.ptr ⟨0, 5, 0, 1⟩ 0 0, V.ptr ⟨0, 6, 0, 1⟩ 0 0] [o1, oM]).m = ⟨.nil, [o1, oM]⟩ := rfl
  generalize enter [V.ptr ⟨0, 4, 0, 1⟩ 0 0, V.ptr ⟨0, 5, 0, 1⟩ 0 0, V.ptr ⟨0, 6, 0, 1⟩ 0 0] [o1, oM] = s at *
  have hA' : (⟨.nil, [o1, oM]⟩ : Mem).row ⟨0, 4, 0, 1⟩ = some ⟨1, 3, false, false, [vn i]⟩ := by rw [row_outer _ _ _ _ (by simp), row_outer _ _ _ _ (by simp), hA]
  have hB' : (⟨.nil, [o1, oM]⟩ : Mem).row ⟨0, 5, 0, 1⟩ = some ⟨1, 3, false, false, [vn j]⟩ := by rw [row_outer _ _ _ _ (by simp), row_outer _ _ _ _ (by simp), hB]
  have hC' : (⟨.nil, [o1, oM]⟩ : Mem).row ⟨0, 6, 0, 1⟩ = some ⟨1, 3, false, false, [vn k]⟩ := by rw [row_outer _ _ _ _ (by simp), row_outer _ _ _ _ (by simp), hC]
  have q1 := P90 i j k hi hj hk hb
  have q2 := P81 (invW i j k * 60 ^ 72) (by
    calc invW i j k * 60 ^ 72 < 60 ^ 90 * 60 ^ 72 := Nat.mul_lt_mul_of_pos_right hb (by decide)
      _ ≤ 60 ^ 168 := by decide)
  rw [hr] at q2
  clear hb hr
  rcases hR with ⟨es, sh, rfl, rfl⟩ | ⟨e, rfl, rfl⟩
  · repeat (first
      | with_reducible first | refine W_seq ?_ | refine W_skip ?_ | refine W_label ?_ | refine W_ret ?_ | refine W_exit ?_ | refine W_block ?_ | refine thenI ?_ | refine thenRet ?_ | refine thenExit ?_ | refine blockRet ?_ | refine blockI ?_ | refine blockExit ?_ | refine blockExitNe rfl ?_
      | (with_reducible refine W_region_k ?_
         intro K hK
         simp (maxSteps := 2000000) (disch := omega) only [SA, ofValue, ofCell, bin, intBin, un, idx, Go.Ev.builtin, calleeOf, V.isNilS, V.depthOk, depth1, V.ok1, V.isAgg, V.cells, isConst, Nat.reduceBEq, Nat.reduceEqDiff, ↓reduceIte, Nat.reduceLeDiff, Nat.reduceAdd, Nat.reduceMul, Nat.reduceSub, Nat.reduceLT, Int.reduceAdd, Int.reduceSub, Int.reduceMul, Int.reduceLT, Int.reduceLE, Int.reduceToNat, Int.reduceNeg, reduceIte, reduceCtorEq, SPx, SAx, SWx, h0, h1, h2, hm, hA', hB', hC', co90, co81, sr90, sr81, q1.iff, q2.iff]
         refine hK _ _ ?_
         clear hK K)
    )
    refine fin_ret (X := X) (fn := Tryd.f89) (vs := [.sl (nats es)]) hd ?_ rfl rfl
    simp (maxSteps := 2000000) (disch := omega) only [SA, ofValue, ofCell, bin, intBin, un, idx, Go.Ev.builtin, calleeOf, V.isNilS, V.depthOk, depth1, V.ok1, V.isAgg, V.cells, isConst, Nat.reduceBEq, Nat.reduceEqDiff, ↓reduceIte, Nat.reduceLeDiff, Nat.reduceAdd, Nat.reduceMul, Nat.reduceSub, Nat.reduceLT, Int.reduceAdd, Int.reduceSub, Int.reduceMul, Int.reduceLT, Int.reduceLE, Int.reduceToNat, Int.reduceNeg, reduceIte, reduceCtorEq, SPx, Tryd.results89, resVars, resVar]
  · repeat (first
      | with_reducible first | refine W_seq ?_ | refine W_skip ?_ | refine W_label ?_ | refine W_ret ?_ | refine W_exit ?_ | refine W_block ?_ | refine thenI ?_ | refine thenRet ?_ | refine thenExit ?_ | refine blockRet ?_ | refine blockI ?_ | refine blockExit ?_ | refine blockExitNe rfl ?_
      | (with_reducible refine W_region_k ?_
         intro K hK
         simp (maxSteps := 2000000) (disch := omega) only [SA, ofValue, ofCell, bin, intBin, un, idx, Go.Ev.builtin, calleeOf, V.isNilS, V.depthOk, depth1, V.ok1, V.isAgg, V.cells, isConst, Nat.reduceBEq, Nat.reduceEqDiff, ↓reduceIte, Nat.reduceLeDiff, Nat.reduceAdd, Nat.reduceMul, Nat.reduceSub, Nat.reduceLT, Int.reduceAdd, Int.reduceSub, Int.reduceMul, Int.reduceLT, Int.reduceLE, Int.reduceToNat, Int.reduceNeg, reduceIte, reduceCtorEq, SPx, SAx, SWx, h0, h1, h2, hm, hA', hB', hC', co90, co81, sr90, sr81, q1.iff, q2.panics]
         refine hK _ _ ?_
         clear hK K)
    )
    exact fin_panic hd rfl rfl
end Go.Proofs.YtpocekfifokndaaDoor
namespace Go.Proofs.YtpocekfifokndaaDoor
open Go Go.Ev Go.Pl
set_option maxRecDepth 100000
set_option maxHeartbeats 4000000
theorem reg_spec {a : List Int} (h : (regS a).2.2.2 = 0) : chk a = 0 ∧ a.length ≠ 0 ∧ numI a = 2 ^ (regS a).1 * 3 ^ (regS a).2.1 * 5 ^ (regS a).2.2.1 := by
  unfold regS at h ⊢
  by_cases hc : chk a = 0
  · rw [if_neg (fun e => e hc)] at h ⊢
    by_cases hl : a.length = 0
    · rw [if_pos hl] at h; simp at h
    · rw [if_neg hl] at h ⊢
      by_cases hs : (splitF [2, 3, 5] (numI a)).2 = 1
      · rw [if_neg (fun e => e hs)]
        refine ⟨hc, hl, ?_⟩
        have h0 := numI_pos hc hl
        obtain ⟨e2, p2, _⟩ := rem_spec (p := 2) (by decide) h0
        obtain ⟨e3, p3, _⟩ := rem_spec (p := 3) (by decide) p2
        obtain ⟨e5, p5, _⟩ := rem_spec (p := 5) (by decide) p3
        simp only [splitF] at hs
        rw [hs, Nat.one_mul] at e5
        dsimp only
        rw [← Nat.mul_comm (5 ^ _), ← e5, Nat.mul_comm (2 ^ _), ← Nat.mul_assoc, ← e3]
        exact e2
      · rw [if_pos hs] at h; simp at h
  · rw [if_pos hc] at h; exact absurd h hc
theorem pow_lt_of {b n B N : Nat} (hb : 1 < b) (h : b ^ n ≤ N) (hN : N < b ^ B) : n < B := (Nat.pow_lt_pow_iff_right hb).1 (Nat.lt_of_le_of_lt h hN)
theorem reg_bounds {i j k N : Nat} (hN : N < 60 ^ 16) (h : N = 2 ^ i * 3 ^ j * 5 ^ k) : i < 95 ∧ j < 60 ∧ k < 41 := by
  have p2 : 0 < 2 ^ i := Nat.pow_pos (by decide)
  have p3 : 0 < 3 ^ j := Nat.pow_pos (by decide)
  have p5 : 0 < 5 ^ k := Nat.pow_pos (by decide)
  refine ⟨pow_lt_of (b := 2) (N := N) (by decide) ?_ (Nat.lt_trans hN (by decide)), pow_lt_of (b := 3) (N := N) (by decide) ?_ (Nat.lt_trans hN (by decide)), pow_lt_of (b := 5) (N := N) (by decide) ?_ (Nat.lt_trans hN (by decide))⟩
  · rw [h, Nat.mul_assoc]; exact Nat.le_mul_of_pos_right _ (Nat.mul_pos p3 p5)
  · rw [h, Nat.mul_comm (2 ^ i), Nat.mul_assoc]; exact Nat.le_mul_of_pos_right _ (Nat.mul_pos p2 p5)
  · rw [h]; exact Nat.le_mul_of_pos_left _ (Nat.mul_pos p2 p3)
theorem invW_le (i j k : Nat) : invW i j k ≤ 60 ^ invK i j k := by
  unfold invW
  generalize invK i j k = M
  have e : (60 : Nat) ^ M = 2 ^ (2 * M) * 3 ^ M * 5 ^ M := by rw [Nat.pow_mul, ← Nat.mul_pow, ← Nat.mul_pow]
  rw [e]
  exact Nat.mul_le_mul (Nat.mul_le_mul (Nat.pow_le_pow_right (by decide) (by omega)) (Nat.pow_le_pow_right (by decide) (by omega))) (Nat.pow_le_pow_right (by decide) (by omega))
theorem invW_pos (i j k : Nat) : 0 < invW i j k := Nat.mul_pos (Nat.mul_pos (Nat.pow_pos (by decide)) (Nat.pow_pos (by decide))) (Nat.pow_pos (by decide))
def recS (a : List Int) : List Nat × Int :=
  if (regS a).2.2.2 ≠ 0 then ([], (regS a).2.2.2) else
  if 16 < (digB (invW (regS a).1 (regS a).2.1 (regS a).2.2.1)).length then ([], 3) else (digB (invW (regS a).1 (regS a).2.1 (regS a).2.2.1), 0)
theorem placeRes_inv {W : Nat} (hp : 0 < W) (hW : W ≤ 60 ^ 60) : placeRes (W * 60 ^ 72) = if 16 < (digB W).length then .panic (.ifc 23 (vi 3)) else .ret (.agg [.sl (nats (digB W)), vi (vz W)]) := by
  have h1 : W * 60 ^ 72 ≠ 0 := Nat.mul_ne_zero (by omega) (by decide)
  have h2 := vz_lt (n := 61) hp (Nat.lt_of_le_of_lt hW (by decide))
  rw [placeRes, if_neg h1, digB_shift, vz_shift hp]
  have e : ((vz W + 72 : Nat) : Int) - 72 = (vz W : Int) := by omega
  rw [e]
  by_cases hl : 16 < (digB W).length
  · rw [if_pos hl, if_pos (.inl hl)]
  · rw [if_neg hl, if_neg (by omega)]
theorem P32 (a : List Int) : Ans X 32 [.sl (ints a)] (.ret (.tup [.sl (nats (recS a).1), vi (recS a).2])) := by
  refine call_of_X (fn := Tryd.f32) 1 Tryd.func32 rfl (by decide +kernel) rfl ?_ ?_ ?_ ?_
  · rfl
  · intro h; exact absurd h (by rw [sr32]; decide)
  · intro v hv; injection hv with hv; subst hv; rfl
  intro s hs hd ho
  have hm : s.m = ⟨.nil, []⟩ := by subst hs; rfl
  have h0 : s.t.get 0 = .sl (ints a) := by subst hs; rfl
  clear hs
  have key : ∀ (m : Mem) (dst : Nat) (K KP : V → Mem → Prop), m.out = [] → m.row ⟨0, 4, 0, 1⟩ = some ⟨1, 3, false, false, [vn (regS a).1]⟩ → m.row ⟨0, 5, 0, 1⟩ = some ⟨1, 3, false, false, [vn (regS a).2.1]⟩ → m.row ⟨0, 6, 0, 1⟩ = some ⟨1, 3, false, false, [vn (regS a).2.2.1]⟩ →
      (CallQ X 77 [vi (regS a).2.2.2, .fn 89 [] [.ptr ⟨0, 4, 0, 1⟩ 0 0, .ptr ⟨0, 5, 0, 1⟩ 0 0, .ptr ⟨0, 6, 0, 1⟩ 0 0]] m dst K KP ↔ K (.tup [.sl (nats (recS a).1), vi (recS a).2]) m) := by
    rintro ⟨own, out⟩ dst K KP ho r2 r3 r4
    dsimp only at ho
    subst ho
    by_cases h : (regS a).2.2.2 = 0
    · obtain ⟨hc, hl, hN⟩ := reg_spec h
      obtain ⟨bi, bj, bk⟩ := reg_bounds (numI_lt hc) hN
      have hK : invK (regS a).1 (regS a).2.1 (regS a).2.2.1 ≤ 60 := by unfold invK; omega
      have hW : invW (regS a).1 (regS a).2.1 (regS a).2.2.1 ≤ 60 ^ 60 := Nat.le_trans (invW_le _ _ _) (Nat.pow_le_pow_right (by decide) hK)
      have hpr := placeRes_inv (invW_pos (regS a).1 (regS a).2.1 (regS a).2.2.1) hW
      rw [h]
      by_cases hl : 16 < (digB (invW (regS a).1 (regS a).2.1 (regS a).2.2.1)).length
      · rw [if_pos hl] at hpr
        refine AnsAt.iff (m := ⟨own, []⟩) (M77 89 _ own (.panic (.ifc 23 (vi 3))) rfl co89 sr89 (fun o1 => P89 _ _ _ (by omega) (by omega) (by omega) (Nat.lt_of_le_of_lt hW (by decide)) o1 own _ hpr _ (.inr ⟨3, rfl, rfl⟩) r2 r3 r4) _ (.inr ⟨3, rfl, ?_⟩))
        rw [recS, if_neg (fun e => e h), if_pos hl]; rfl
      · rw [if_neg hl] at hpr
        refine AnsAt.iff (m := ⟨own, []⟩) (M77 89 _ own (.ret (.sl (nats (digB (invW (regS a).1 (regS a).2.1 (regS a).2.2.1))))) rfl co89 sr89 (fun o1 => P89 _ _ _ (by omega) (by omega) (by omega) (Nat.lt_of_le_of_lt hW (by decide)) o1 own _ hpr _ (.inl ⟨_, _, rfl, rfl⟩) r2 r3 r4) _ (.inl ⟨_, rfl, ?_⟩))
        rw [recS, if_neg (fun e => e h), if_neg hl]
    · refine AnsAt.iff (m := ⟨own, []⟩) ?_
      have := M77e (regS a).2.2.2 h 89 [.ptr ⟨0, 4, 0, 1⟩ 0 0, .ptr ⟨0, 5, 0, 1⟩ 0 0, .ptr ⟨0, 6, 0, 1⟩ 0 0] own rfl
      rw [recS, if_pos h]; exact this
  repeat (first
    | with_reducible first | refine W_seq ?_ | refine W_skip ?_ | refine W_label ?_ | refine W_ret ?_ | refine W_exit ?_ | refine W_block ?_ | refine thenI ?_ | refine thenRet ?_ | refine thenExit ?_ | refine blockRet ?_ | refine blockI ?_ | refine blockExit ?_ | refine blockExitNe rfl ?_
    | (with_reducible refine W_region_k ?_
       intro K hK
       simp (maxSteps := 2000000) (disch := omega) only [SA, ofValue, ofCell, bin, intBin, un, idx, Go.Ev.builtin, calleeOf, V.isNilS, V.depthOk, depth1, V.ok1, V.isAgg, V.cells, isConst, Nat.reduceBEq, Nat.reduceEqDiff, ↓reduceIte, Nat.reduceLeDiff, Nat.reduceAdd, Nat.reduceMul, Nat.reduceSub, Nat.reduceLT, Int.reduceAdd, Int.reduceSub, Int.reduceMul, Int.reduceLT, Int.reduceLE, Int.reduceToNat, Int.reduceNeg, reduceIte, reduceCtorEq, SPx, SAx, h0, hm, co31, sr31, (P31 a).iff]
       refine hK _ _ ?_
       clear hK K)
  )
  with_reducible refine W_region_k ?_
  intro K hK
  simp (maxSteps := 2000000) (disch := omega) only [SA, ofValue, ofCell, bin, intBin, un, idx, Go.Ev.builtin, calleeOf, V.isNilS, V.depthOk, depth1, V.ok1, V.isAgg, V.cells, isConst, Nat.reduceBEq, Nat.reduceEqDiff, ↓reduceIte, Nat.reduceLeDiff, Nat.reduceAdd, Nat.reduceMul, Nat.reduceSub, Nat.reduceLT, Int.reduceAdd, Int.reduceSub, Int.reduceMul, Int.reduceLT, Int.reduceLE, Int.reduceToNat, Int.reduceNeg, reduceIte, reduceCtorEq, SPx, SAx, hm, co77, sr77]
  rw [key _ _ _ _ rfl (by simp [Mem.row_new, Mem.row_setW, Mem.new_out, Mem.gen_new, Mem.gen_nil]) (by simp [Mem.row_new, Mem.row_setW, Mem.new_out, Mem.gen_new, Mem.gen_nil]) (by simp [Mem.row_new, Mem.row_setW, Mem.new_out, Mem.gen_new, Mem.gen_nil])]
  simp (maxSteps := 2000000) (disch := omega) only [SA, ofValue, ofCell, bin, intBin, un, idx, Go.Ev.builtin, calleeOf, V.isNilS, V.depthOk, depth1, V.ok1, V.isAgg, V.cells, isConst, Nat.reduceBEq, Nat.reduceEqDiff, ↓reduceIte, Nat.reduceLeDiff, Nat.reduceAdd, Nat.reduceMul, Nat.reduceSub, Nat.reduceLT, Int.reduceAdd, Int.reduceSub, Int.reduceMul, Int.reduceLT, Int.reduceLE, Int.reduceToNat, Int.reduceNeg, reduceIte, reduceCtorEq, SPx, SAx]
  refine hK _ _ ?_
  clear hK K
  repeat (first
    | with_reducible first | refine W_seq ?_ | refine W_skip ?_ | refine W_label ?_ | refine W_ret ?_ | refine W_exit ?_ | refine W_block ?_ | refine thenI ?_ | refine thenRet ?_ | refine thenExit ?_ | refine blockRet ?_ | refine blockI ?_ | refine blockExit ?_ | refine blockExitNe rfl ?_
    | (with_reducible refine W_region_k ?_
       intro K hK
       simp (maxSteps := 2000000) (disch := omega) only [SA, ofValue, ofCell, bin, intBin, un, idx, Go.Ev.builtin, calleeOf, V.isNilS, V.depthOk, depth1, V.ok1, V.isAgg, V.cells, isConst, Nat.reduceBEq, Nat.reduceEqDiff, ↓reduceIte, Nat.reduceLeDiff, Nat.reduceAdd, Nat.reduceMul, Nat.reduceSub, Nat.reduceLT, Int.reduceAdd, Int.reduceSub, Int.reduceMul, Int.reduceLT, Int.reduceLE, Int.reduceToNat, Int.reduceNeg, reduceIte, reduceCtorEq, SPx]
       refine hK _ _ ?_
       clear hK K)
  )
  refine end_ret hd (by simp (maxSteps := 2000000) (disch := omega) only [Tryd.results32, resVars, resVar, SA, ofValue, ofCell, bin, intBin, un, idx, Go.Ev.builtin, calleeOf, V.isNilS, V.depthOk, depth1, V.ok1, V.isAgg, V.cells, isConst, Nat.reduceBEq, Nat.reduceEqDiff, ↓reduceIte, Nat.reduceLeDiff, Nat.reduceAdd, Nat.reduceMul, Nat.reduceSub, Nat.reduceLT, Int.reduceAdd, Int.reduceSub, Int.reduceMul, Int.reduceLT, Int.reduceLE, Int.reduceToNat, Int.reduceNeg, reduceIte, reduceCtorEq, SPx]; rfl) ?_
  simp (maxSteps := 2000000) (disch := omega) only [SA, ofValue, ofCell, bin, intBin, un, idx, Go.Ev.builtin, calleeOf, V.isNilS, V.depthOk, depth1, V.ok1, V.isAgg, V.cells, isConst, Nat.reduceBEq, Nat.reduceEqDiff, ↓reduceIte, Nat.reduceLeDiff, Nat.reduceAdd, Nat.reduceMul, Nat.reduceSub, Nat.reduceLT, Int.reduceAdd, Int.reduceSub, Int.reduceMul, Int.reduceLT, Int.reduceLE, Int.reduceToNat, Int.reduceNeg, reduceIte, reduceCtorEq, true_and, and_true, Nat.zero_add, Nat.le_refl, if_true, ↓reduceIte, resOf, X_own, mv_int, mv_bool, mv_str, mv_sl, mv_nilS, mv_tup, mv2s_nil, mv2s_cons, mv2_int, mv2_bool, mv2_str, mv2_sl, mv2_nilS, Option.map_some, vi, vn, SPx]
end Go.Proofs.YtpocekfifokndaaDoor
namespace Go.Proofs.YtpocekfifokndaaDoor
open Go Go.Ev Go.Pl
set_option maxRecDepth 100000
set_option maxHeartbeats 4000000
theorem wr_u8 {n : Nat} (h : n < 256) : wr .u8 (n : Int) = (n : Int) := by
  simp only [wr, IntKind.wrap]
  have e : IntKind.u8.signed = false := by decide
  have e2 : IntKind.u8.bits = 8 := by decide
  rw [e, e2, Bool.false_and, if_neg (by decide)]
  omega
def decV (l : List UInt8) : Nat := l.foldl (fun n b => 10 * n + (b.toNat - 48)) 0
def partS (s : List UInt8) : Nat × Bool :=
  if s.length = 0 ∨ 2 < s.length ∨ (s.length = 2 ∧ s[0]? = some 48) then (0, false) else
  if s.all (fun b => decide (48 ≤ b.toNat) && decide (b.toNat ≤ 57)) = true then (decV s, true) else (0, false)
theorem decV_lt : ∀ (l : List UInt8), l.length ≤ 2 → (∀ b ∈ l, 48 ≤ b.toNat ∧ b.toNat ≤ 57) → decV l < 100
  | [], _, _ => by decide
  | [a], _, h => by have := h a (by simp); simp [decV]; omega
  | [a, b], _, h => by have h1 := h a (by simp); have h2 := h b (by simp); simp [decV]; omega
  | a :: b :: c :: l, h, _ => by simp at h
theorem P92 (s : List UInt8) (hs0 : s.length < 1000000000000) : Ans X 92 [.str s] (.ret (.tup [vn (partS s).1, .bool (partS s).2])) := by
  refine call_of_X (fn := Tryd.f92) 1 Tryd.func92 rfl (by decide +kernel) rfl ?_ ?_ ?_ ?_
  · rfl
  · exact fun _ => rfl
  · intro v hv; injection hv with hv; subst hv; rfl
  intro st hs hd ho
  have h0 : st.t.get 0 = .str s := by subst hs; rfl
  clear hs
  by_cases c1 : s.length = 0
  · have c1' : (((s.length : Nat) : Int) == 0) = true := by rw [c1]; rfl
    repeat (first
      | with_reducible first | refine W_seq ?_ | refine W_skip ?_ | refine W_label ?_ | refine W_ret ?_ | refine W_exit ?_ | refine W_block ?_ | refine thenI ?_ | refine thenRet ?_ | refine thenExit ?_ | refine blockRet ?_ | refine blockI ?_ | refine blockExit ?_ | refine blockExitNe rfl ?_
      | (with_reducible refine W_region_k ?_
         intro K hK
         simp (maxSteps := 2000000) (disch := omega) only [SA, ofValue, ofCell, bin, intBin, un, idx, Go.Ev.builtin, calleeOf, V.isNilS, V.depthOk, depth1, V.ok1, V.isAgg, V.cells, isConst, Nat.reduceBEq, Nat.reduceEqDiff, ↓reduceIte, Nat.reduceLeDiff, Nat.reduceAdd, Nat.reduceMul, Nat.reduceSub, Nat.reduceLT, Int.reduceAdd, Int.reduceSub, Int.reduceMul, Int.reduceLT, Int.reduceLE, Int.reduceToNat, Int.reduceNeg, reduceIte, reduceCtorEq, SPx, h0, c1']
         refine hK _ _ ?_
         clear hK K)
    )
    with_reducible refine W_cond2 (by simp only [SO, ofValue, ofCell, Nat.reduceBEq, Nat.reduceEqDiff, ↓reduceIte]; rfl) (fun h => ?_) (fun h => ?_)
    · repeat (first
        | with_reducible first | refine W_seq ?_ | refine W_skip ?_ | refine W_label ?_ | refine W_ret ?_ | refine W_exit ?_ | refine W_block ?_ | refine thenI ?_ | refine thenRet ?_ | refine thenExit ?_ | refine blockRet ?_ | refine blockI ?_ | refine blockExit ?_ | refine blockExitNe rfl ?_
        | (with_reducible refine W_region_k ?_
           intro K hK
           simp (maxSteps := 2000000) (disch := omega) only [SA, ofValue, ofCell, bin, intBin, un, idx, Go.Ev.builtin, calleeOf, V.isNilS, V.depthOk, depth1, V.ok1, V.isAgg, V.cells, isConst, Nat.reduceBEq, Nat.reduceEqDiff, ↓reduceIte, Nat.reduceLeDiff, Nat.reduceAdd, Nat.reduceMul, Nat.reduceSub, Nat.reduceLT, Int.reduceAdd, Int.reduceSub, Int.reduceMul, Int.reduceLT, Int.reduceLE, Int.reduceToNat, Int.reduceNeg, reduceIte, reduceCtorEq, SPx]
           refine hK _ _ ?_
           clear hK K)
      )
      refine end_ret hd (by simp (maxSteps := 2000000) (disch := omega) only [Tryd.results92, resVars, resVar, SA, ofValue, ofCell, bin, intBin, un, idx, Go.Ev.builtin, calleeOf, V.isNilS, V.depthOk, depth1, V.ok1, V.isAgg, V.cells, isConst, Nat.reduceBEq, Nat.reduceEqDiff, ↓reduceIte, Nat.reduceLeDiff, Nat.reduceAdd, Nat.reduceMul, Nat.reduceSub, Nat.reduceLT, Int.reduceAdd, Int.reduceSub, Int.reduceMul, Int.reduceLT, Int.reduceLE, Int.reduceToNat, Int.reduceNeg, reduceIte, reduceCtorEq, SPx]; rfl) ?_
      simp (maxSteps := 2000000) (disch := omega) only [SA, ofValue, ofCell, bin, intBin, un, idx, Go.Ev.builtin, calleeOf, V.isNilS, V.depthOk, depth1, V.ok1, V.isAgg, V.cells, isConst, Nat.reduceBEq, Nat.reduceEqDiff, ↓reduceIte, Nat.reduceLeDiff, Nat.reduceAdd, Nat.reduceMul, Nat.reduceSub, Nat.reduceLT, Int.reduceAdd, Int.reduceSub, Int.reduceMul, Int.reduceLT, Int.reduceLE, Int.reduceToNat, Int.reduceNeg, reduceIte, reduceCtorEq, true_and, and_true, Nat.zero_add, Nat.le_refl, if_true, ↓reduceIte, resOf, X_own, mv_int, mv_bool, mv_str, mv_sl, mv_nilS, mv_tup, mv2s_nil, mv2s_cons, mv2_int, mv2_bool, mv2_str, mv2_sl, mv2_nilS, Option.map_some, vi, vn, SPx]
      rw [partS, if_pos (.inl c1)]; rfl
    · simp at h
  have c1' : (((s.length : Nat) : Int) == 0) = false := by rw [beq_eq_false_iff_ne]; omega
  by_cases c2 : 2 < s.length
  · have c2' : ((s.length : Nat) : Int) > 2 := by omega
    repeat (first
      | with_reducible first | refine W_seq ?_ | refine W_skip ?_ | refine W_label ?_ | refine W_ret ?_ | refine W_exit ?_ | refine W_block ?_ | refine thenI ?_ | refine thenRet ?_ | refine thenExit ?_ | refine blockRet ?_ | refine blockI ?_ | refine blockExit ?_ | refine blockExitNe rfl ?_
      | (with_reducible refine W_region_k ?_
         intro K hK
         simp (maxSteps := 2000000) (disch := omega) only [SA, ofValue, ofCell, bin, intBin, un, idx, Go.Ev.builtin, calleeOf, V.isNilS, V.depthOk, depth1, V.ok1, V.isAgg, V.cells, isConst, Nat.reduceBEq, Nat.reduceEqDiff, ↓reduceIte, Nat.reduceLeDiff, Nat.reduceAdd, Nat.reduceMul, Nat.reduceSub, Nat.reduceLT, Int.reduceAdd, Int.reduceSub, Int.reduceMul, Int.reduceLT, Int.reduceLE, Int.reduceToNat, Int.reduceNeg, reduceIte, reduceCtorEq, SPx, h0, c1', c2']
         refine hK _ _ ?_
         clear hK K)
    )
    with_reducible refine W_cond2 (by simp only [SO, ofValue, ofCell, Nat.reduceBEq, Nat.reduceEqDiff, ↓reduceIte]; rfl) (fun h => ?_) (fun h => ?_)
    · repeat (first
        | with_reducible first | refine W_seq ?_ | refine W_skip ?_ | refine W_label ?_ | refine W_ret ?_ | refine W_exit ?_ | refine W_block ?_ | refine thenI ?_ | refine thenRet ?_ | refine thenExit ?_ | refine blockRet ?_ | refine blockI ?_ | refine blockExit ?_ | refine blockExitNe rfl ?_
        | (with_reducible refine W_region_k ?_
           intro K hK
           simp (maxSteps := 2000000) (disch := omega) only [SA, ofValue, ofCell, bin, intBin, un, idx, Go.Ev.builtin, calleeOf, V.isNilS, V.depthOk, depth1, V.ok1, V.isAgg, V.cells, isConst, Nat.reduceBEq, Nat.reduceEqDiff, ↓reduceIte, Nat.reduceLeDiff, Nat.reduceAdd, Nat.reduceMul, Nat.reduceSub, Nat.reduceLT, Int.reduceAdd, Int.reduceSub, Int.reduceMul, Int.reduceLT, Int.reduceLE, Int.reduceToNat, Int.reduceNeg, reduceIte, reduceCtorEq, SPx]
           refine hK _ _ ?_
           clear hK K)
      )
      refine end_ret hd (by simp (maxSteps := 2000000) (disch := omega) only [Tryd.results92, resVars, resVar, SA, ofValue, ofCell, bin, intBin, un, idx, Go.Ev.builtin, calleeOf, V.isNilS, V.depthOk, depth1, V.ok1, V.isAgg, V.cells, isConst, Nat.reduceBEq, Nat.reduceEqDiff, ↓reduceIte, Nat.reduceLeDiff, Nat.reduceAdd, Nat.reduceMul, Nat.reduceSub, Nat.reduceLT, Int.reduceAdd, Int.reduceSub, Int.reduceMul, Int.reduceLT, Int.reduceLE, Int.reduceToNat, Int.reduceNeg, reduceIte, reduceCtorEq, SPx]; rfl) ?_
      simp (maxSteps := 2000000) (disch := omega) only [SA, ofValue, ofCell, bin, intBin, un, idx, Go.Ev.builtin, calleeOf, V.isNilS, V.depthOk, depth1, V.ok1, V.isAgg, V.cells, isConst, Nat.reduceBEq, Nat.reduceEqDiff, ↓reduceIte, Nat.reduceLeDiff, Nat.reduceAdd, Nat.reduceMul, Nat.reduceSub, Nat.reduceLT, Int.reduceAdd, Int.reduceSub, Int.reduceMul, Int.reduceLT, Int.reduceLE, Int.reduceToNat, Int.reduceNeg, reduceIte, reduceCtorEq, true_and, and_true, Nat.zero_add, Nat.le_refl, if_true, ↓reduceIte, resOf, X_own, mv_int, mv_bool, mv_str, mv_sl, mv_nilS, mv_tup, mv2s_nil, mv2s_cons, mv2_int, mv2_bool, mv2_str, mv2_sl, mv2_nilS, Option.map_some, vi, vn, SPx]
      rw [partS, if_pos (.inr (.inl c2))]; rfl
    · simp at h
  have c2' : ¬ ((s.length : Nat) : Int) > 2 := by omega
  obtain ⟨b0, hb0⟩ : ∃ b, s[0]? = some b := ⟨s[0]'(by omega), by simp⟩
  by_cases c3 : s.length = 2 ∧ b0 = 48
  · have c3' : (((s.length : Nat) : Int) == 2) = true := by rw [c3.1]; rfl
    have c4 : (((b0.toNat : Nat) : Int) == 48) = true := by rw [c3.2]; rfl
    have hR : partS s = (0, false) := by rw [partS, if_pos (.inr (.inr ⟨c3.1, by rw [hb0, c3.2]⟩))]
    rw [hR]
    clear c3 hR c1 c2
    repeat (first
      | with_reducible first | refine W_seq ?_ | refine W_skip ?_ | refine W_label ?_ | refine W_ret ?_ | refine W_exit ?_ | refine W_block ?_ | refine thenI ?_ | refine thenRet ?_ | refine thenExit ?_ | refine blockRet ?_ | refine blockI ?_ | refine blockExit ?_ | refine blockExitNe rfl ?_
      | (with_reducible refine W_region_k ?_
         intro K hK
         simp (maxSteps := 2000000) (disch := omega) only [SA, ofValue, ofCell, bin, intBin, un, idx, Go.Ev.builtin, calleeOf, V.isNilS, V.depthOk, depth1, V.ok1, V.isAgg, V.cells, isConst, Nat.reduceBEq, Nat.reduceEqDiff, ↓reduceIte, Nat.reduceLeDiff, Nat.reduceAdd, Nat.reduceMul, Nat.reduceSub, Nat.reduceLT, Int.reduceAdd, Int.reduceSub, Int.reduceMul, Int.reduceLT, Int.reduceLE, Int.reduceToNat, Int.reduceNeg, reduceIte, reduceCtorEq, SPx, h0, c1', c2', c3', hb0, c4]
         refine hK _ _ ?_
         clear hK K)
    )
    with_reducible refine W_cond2 (by simp only [SO, ofValue, ofCell, Nat.reduceBEq, Nat.reduceEqDiff, ↓reduceIte]; rfl) (fun h => ?_) (fun h => ?_)
    · repeat (first
        | with_reducible first | refine W_seq ?_ | refine W_skip ?_ | refine W_label ?_ | refine W_ret ?_ | refine W_exit ?_ | refine W_block ?_ | refine thenI ?_ | refine thenRet ?_ | refine thenExit ?_ | refine blockRet ?_ | refine blockI ?_ | refine blockExit ?_ | refine blockExitNe rfl ?_
        | (with_reducible refine W_region_k ?_
           intro K hK
           simp (maxSteps := 2000000) (disch := omega) only [SA, ofValue, ofCell, bin, intBin, un, idx, Go.Ev.builtin, calleeOf, V.isNilS, V.depthOk, depth1, V.ok1, V.isAgg, V.cells, isConst, Nat.reduceBEq, Nat.reduceEqDiff, ↓reduceIte, Nat.reduceLeDiff, Nat.reduceAdd, Nat.reduceMul, Nat.reduceSub, Nat.reduceLT, Int.reduceAdd, Int.reduceSub, Int.reduceMul, Int.reduceLT, Int.reduceLE, Int.reduceToNat, Int.reduceNeg, reduceIte, reduceCtorEq, SPx]
           refine hK _ _ ?_
           clear hK K)
      )
      refine end_ret hd (by simp (maxSteps := 2000000) (disch := omega) only [Tryd.results92, resVars, resVar, SA, ofValue, ofCell, bin, intBin, un, idx, Go.Ev.builtin, calleeOf, V.isNilS, V.depthOk, depth1, V.ok1, V.isAgg, V.cells, isConst, Nat.reduceBEq, Nat.reduceEqDiff, ↓reduceIte, Nat.reduceLeDiff, Nat.reduceAdd, Nat.reduceMul, Nat.reduceSub, Nat.reduceLT, Int.reduceAdd, Int.reduceSub, Int.reduceMul, Int.reduceLT, Int.reduceLE, Int.reduceToNat, Int.reduceNeg, reduceIte, reduceCtorEq, SPx]; rfl) ?_
      simp (maxSteps := 2000000) (disch := omega) only [SA, ofValue, ofCell, bin, intBin, un, idx, Go.Ev.builtin, calleeOf, V.isNilS, V.depthOk, depth1, V.ok1, V.isAgg, V.cells, isConst, Nat.reduceBEq, Nat.reduceEqDiff, ↓reduceIte, Nat.reduceLeDiff, Nat.reduceAdd, Nat.reduceMul, Nat.reduceSub, Nat.reduceLT, Int.reduceAdd, Int.reduceSub, Int.reduceMul, Int.reduceLT, Int.reduceLE, Int.reduceToNat, Int.reduceNeg, reduceIte, reduceCtorEq, true_and, and_true, Nat.zero_add, Nat.le_refl, if_true, ↓reduceIte, resOf, X_own, mv_int, mv_bool, mv_str, mv_sl, mv_nilS, mv_tup, mv2s_nil, mv2s_cons, mv2_int, mv2_bool, mv2_str, mv2_sl, mv2_nilS, Option.map_some, vi, vn, SPx]
      rfl
    · simp at h
  have hc : ¬ (s.length = 0 ∨ 2 < s.length ∨ (s.length = 2 ∧ s[0]? = some 48)) := by
    rintro (h | h | ⟨h, h'⟩)
    · exact c1 h
    · exact c2 h
    · rw [hb0] at h'; exact c3 ⟨h, Option.some.inj h'⟩
  have hyes : s.all (fun b => decide (48 ≤ b.toNat) && decide (b.toNat ≤ 57)) = true → partS s = (decV s, true) := fun h => by rw [partS, if_neg hc, if_pos h]
  have hno : ∀ (k : Nat) (b : UInt8), s[k]? = some b → ¬ (48 ≤ b.toNat ∧ b.toNat ≤ 57) → partS s = (0, false) := fun k b hk hb => by
    rw [partS, if_neg hc, if_neg]
    intro h
    have := List.all_eq_true.1 h b (List.mem_of_getElem? hk)
    simp only [Bool.and_eq_true, decide_eq_true_eq] at this
    exact hb this
  have hb4 : s.length = 2 → (((b0.toNat : Nat) : Int) == 48) = false := fun h => by
    rw [beq_eq_false_iff_ne]
    intro e
    refine c3 ⟨h, ?_⟩
    apply UInt8.toNat_inj.1
    have : b0.toNat = 48 := by omega
    rw [this]; rfl
  have hl2 : s.length ≤ 2 := by omega
  clear c1 c2 c3 hc hs0
  iterate 5 (first
    | with_reducible first | refine W_seq ?_ | refine W_skip ?_ | refine W_label ?_ | refine W_ret ?_ | refine W_exit ?_ | refine W_block ?_ | refine thenI ?_ | refine thenRet ?_ | refine thenExit ?_ | refine blockRet ?_ | refine blockI ?_ | refine blockExit ?_ | refine blockExitNe rfl ?_
    | (with_reducible refine W_region_k ?_
       intro K hK
       simp (maxSteps := 2000000) (disch := omega) only [SA, ofValue, ofCell, bin, intBin, un, idx, Go.Ev.builtin, calleeOf, V.isNilS, V.depthOk, depth1, V.ok1, V.isAgg, V.cells, isConst, Nat.reduceBEq, Nat.reduceEqDiff, ↓reduceIte, Nat.reduceLeDiff, Nat.reduceAdd, Nat.reduceMul, Nat.reduceSub, Nat.reduceLT, Int.reduceAdd, Int.reduceSub, Int.reduceMul, Int.reduceLT, Int.reduceLE, Int.reduceToNat, Int.reduceNeg, reduceIte, reduceCtorEq, SPx, h0]
       refine hK _ _ ?_
       clear hK K)
  )
  refine W_mid (fun st => st.dfs = [] ∧ st.t.get 0 = .str s ∧ st.t.get 23 = .bool false) ?_ ?_
  · by_cases hq : s.length = 2
    · have c3' : (((s.length : Nat) : Int) == 2) = true := by rw [hq]; rfl
      have hb4 := hb4 hq
      repeat (first
        | with_reducible first | refine W_seq ?_ | refine W_skip ?_ | refine W_label ?_ | refine W_ret ?_ | refine W_exit ?_ | refine W_block ?_ | refine thenI ?_ | refine thenRet ?_ | refine thenExit ?_ | refine blockRet ?_ | refine blockI ?_ | refine blockExit ?_ | refine blockExitNe rfl ?_
        | (with_reducible refine W_region_k ?_
           intro K hK
           simp (maxSteps := 2000000) (disch := omega) only [SA, ofValue, ofCell, bin, intBin, un, idx, Go.Ev.builtin, calleeOf, V.isNilS, V.depthOk, depth1, V.ok1, V.isAgg, V.cells, isConst, Nat.reduceBEq, Nat.reduceEqDiff, ↓reduceIte, Nat.reduceLeDiff, Nat.reduceAdd, Nat.reduceMul, Nat.reduceSub, Nat.reduceLT, Int.reduceAdd, Int.reduceSub, Int.reduceMul, Int.reduceLT, Int.reduceLE, Int.reduceToNat, Int.reduceNeg, reduceIte, reduceCtorEq, SPx, h0, c1', c2', c3', hb0, hb4]
           refine hK _ _ ?_
           clear hK K)
      )
      refine ⟨hd, ?_, ?_⟩
      all_goals (try simp (maxSteps := 2000000) (disch := omega) only [SO, ofValue, ofCell, Nat.reduceBEq, Nat.reduceEqDiff, ↓reduceIte, and_self, and_true, true_and, Mem.newRef_eq, Mem.gen_nil, Mem.gen_new, Mem.gen_set, Mem.row_new, Mem.row_setW, Mem.new_out, Mem.set_out, List.length_nil, List.length_cons, Nat.zero_le, Nat.le_refl, Nat.reduceLeDiff, Nat.reduceAdd, and_self, and_true, true_and, Nat.zero_add, h0])
    · have c3' : (((s.length : Nat) : Int) == 2) = false := by rw [beq_eq_false_iff_ne]; omega
      repeat (first
        | with_reducible first | refine W_seq ?_ | refine W_skip ?_ | refine W_label ?_ | refine W_ret ?_ | refine W_exit ?_ | refine W_block ?_ | refine thenI ?_ | refine thenRet ?_ | refine thenExit ?_ | refine blockRet ?_ | refine blockI ?_ | refine blockExit ?_ | refine blockExitNe rfl ?_
        | (with_reducible refine W_region_k ?_
           intro K hK
           simp (maxSteps := 2000000) (disch := omega) only [SA, ofValue, ofCell, bin, intBin, un, idx, Go.Ev.builtin, calleeOf, V.isNilS, V.depthOk, depth1, V.ok1, V.isAgg, V.cells, isConst, Nat.reduceBEq, Nat.reduceEqDiff, ↓reduceIte, Nat.reduceLeDiff, Nat.reduceAdd, Nat.reduceMul, Nat.reduceSub, Nat.reduceLT, Int.reduceAdd, Int.reduceSub, Int.reduceMul, Int.reduceLT, Int.reduceLE, Int.reduceToNat, Int.reduceNeg, reduceIte, reduceCtorEq, SPx, h0, c1', c2', c3', hb0]
           refine hK _ _ ?_
           clear hK K)
      )
      refine ⟨hd, ?_, ?_⟩
      all_goals (try simp (maxSteps := 2000000) (disch := omega) only [SO, ofValue, ofCell, Nat.reduceBEq, Nat.reduceEqDiff, ↓reduceIte, and_self, and_true, true_and, Mem.newRef_eq, Mem.gen_nil, Mem.gen_new, Mem.gen_set, Mem.row_new, Mem.row_setW, Mem.new_out, Mem.set_out, List.length_nil, List.length_cons, Nat.zero_le, Nat.le_refl, Nat.reduceLeDiff, Nat.reduceAdd, and_self, and_true, true_and, Nat.zero_add, h0])
  clear hd h0 ho hb4 hb0 c1' c2'
  rintro st ⟨hd, h0, h23⟩
  repeat (first
    | with_reducible first | refine W_seq ?_ | refine W_skip ?_ | refine W_label ?_ | refine W_ret ?_ | refine W_exit ?_ | refine W_block ?_ | refine thenI ?_ | refine thenRet ?_ | refine thenExit ?_ | refine blockRet ?_ | refine blockI ?_ | refine blockExit ?_ | refine blockExitNe rfl ?_
    | (with_reducible refine W_region_k ?_
       intro K hK
       simp (maxSteps := 2000000) (disch := omega) only [SA, ofValue, ofCell, bin, intBin, un, idx, Go.Ev.builtin, calleeOf, V.isNilS, V.depthOk, depth1, V.ok1, V.isAgg, V.cells, isConst, Nat.reduceBEq, Nat.reduceEqDiff, ↓reduceIte, Nat.reduceLeDiff, Nat.reduceAdd, Nat.reduceMul, Nat.reduceSub, Nat.reduceLT, Int.reduceAdd, Int.reduceSub, Int.reduceMul, Int.reduceLT, Int.reduceLE, Int.reduceToNat, Int.reduceNeg, reduceIte, reduceCtorEq, SPx, h23]
       refine hK _ _ ?_
       clear hK K)
  )
  with_reducible refine W_cond2 (by simp only [SO, ofValue, ofCell, Nat.reduceBEq, Nat.reduceEqDiff, ↓reduceIte, h23]; rfl) (fun h => ?_) (fun h => ?_)
  · simp at h
  repeat (first
    | with_reducible first | refine W_seq ?_ | refine W_skip ?_ | refine W_label ?_ | refine W_ret ?_ | refine W_exit ?_ | refine W_block ?_ | refine thenI ?_ | refine thenRet ?_ | refine thenExit ?_ | refine blockRet ?_ | refine blockI ?_ | refine blockExit ?_ | refine blockExitNe rfl ?_
    | (with_reducible refine W_region_k ?_
       intro K hK
       simp (maxSteps := 2000000) (disch := omega) only [SA, ofValue, ofCell, bin, intBin, un, idx, Go.Ev.builtin, calleeOf, V.isNilS, V.depthOk, depth1, V.ok1, V.isAgg, V.cells, isConst, Nat.reduceBEq, Nat.reduceEqDiff, ↓reduceIte, Nat.reduceLeDiff, Nat.reduceAdd, Nat.reduceMul, Nat.reduceSub, Nat.reduceLT, Int.reduceAdd, Int.reduceSub, Int.reduceMul, Int.reduceLT, Int.reduceLE, Int.reduceToNat, Int.reduceNeg, reduceIte, reduceCtorEq, SPx, h0]
       refine hK _ _ ?_
       clear hK K)
  )
  refine W_loopg (fun (k : Nat) st => st.dfs = [] ∧ st.t.get 0 = .str s ∧ st.t.get 25 = vn s.length ∧ st.t.get 26 = vn k ∧ st.t.get 4 = vn (decV (s.take k)) ∧ k ≤ s.length ∧ decV (s.take k) < 100 ∧ ∀ b ∈ s.take k, 48 ≤ b.toNat ∧ b.toNat ≤ 57) (fun k => s.length - k) 0 ?_ ?_
  · refine ⟨hd, ?_, ?_, ?_, ?_, Nat.zero_le _, by simp [decV], by simp⟩
    all_goals (try simp (maxSteps := 2000000) (disch := omega) only [SO, ofValue, ofCell, Nat.reduceBEq, Nat.reduceEqDiff, ↓reduceIte, and_self, and_true, true_and, Mem.newRef_eq, Mem.gen_nil, Mem.gen_new, Mem.gen_set, Mem.row_new, Mem.row_setW, Mem.new_out, Mem.set_out, List.length_nil, List.length_cons, Nat.zero_le, Nat.le_refl, Nat.reduceLeDiff, Nat.reduceAdd, and_self, and_true, true_and, Nat.zero_add, h0])
    all_goals rfl
  clear hd h0 h23 h
  rintro k st ⟨hd, h0, h25, h26, h4, hk, hv, hall⟩
  repeat (first
    | with_reducible first | refine W_seq ?_ | refine W_skip ?_ | refine W_label ?_ | refine W_ret ?_ | refine W_exit ?_ | refine W_block ?_ | refine thenI ?_ | refine thenRet ?_ | refine thenExit ?_ | refine blockRet ?_ | refine blockI ?_ | refine blockExit ?_ | refine blockExitNe rfl ?_
    | (with_reducible refine W_region_k ?_
       intro K hK
       simp (maxSteps := 2000000) (disch := omega) only [SA, ofValue, ofCell, bin, intBin, un, idx, Go.Ev.builtin, calleeOf, V.isNilS, V.depthOk, depth1, V.ok1, V.isAgg, V.cells, isConst, Nat.reduceBEq, Nat.reduceEqDiff, ↓reduceIte, Nat.reduceLeDiff, Nat.reduceAdd, Nat.reduceMul, Nat.reduceSub, Nat.reduceLT, Int.reduceAdd, Int.reduceSub, Int.reduceMul, Int.reduceLT, Int.reduceLE, Int.reduceToNat, Int.reduceNeg, reduceIte, reduceCtorEq, SPx, h25, h26]
       refine hK _ _ ?_
       clear hK K)
  )
  with_reducible refine W_cond2 (by simp only [SO, ofValue, ofCell, Nat.reduceBEq, Nat.reduceEqDiff, ↓reduceIte]; rfl) (fun h => ?_) (fun h => ?_)
  · have hk' : k < s.length := by have := of_decide_eq_true h; omega
    clear h
    obtain ⟨b, hb⟩ : ∃ b, s[k]? = some b := ⟨s[k]'(by omega), by simp⟩
    have hbn := hno k b hb
    have htk : s.take (k + 1) = s.take k ++ [b] := by rw [List.take_add_one, hb]; rfl
    have hdv : decV (s.take (k + 1)) = 10 * decV (s.take k) + (b.toNat - 48) := by rw [htk, decV, List.foldl_append]; rfl
    have hall' : (48 ≤ b.toNat ∧ b.toNat ≤ 57) → ∀ x ∈ s.take (k + 1), 48 ≤ x.toNat ∧ x.toNat ≤ 57 := fun hb' x hx => by
      rw [htk] at hx
      rcases List.mem_append.1 hx with hx | hx
      · exact hall x hx
      · rw [List.mem_singleton.1 hx]; exact hb'
    have hlt' : (48 ≤ b.toNat ∧ b.toNat ≤ 57) → decV (s.take (k + 1)) < 100 := fun hb' => decV_lt _ (by rw [List.length_take]; omega) (hall' hb')
    clear hall hno hyes htk
    generalize hn : b.toNat = n at hbn hdv hall' hlt'
    generalize hv' : decV (s.take (k + 1)) = v' at hdv hlt'
    generalize decV (s.take k) = v at hv h4 hdv
    have hnv : V.int .u8 ((b.toNat : Nat) : Int) = V.int .u8 (n : Int) := by rw [hn]
    clear hn
    by_cases q1 : (n : Int) < 48
    · rw [hbn (by omega)]
      clear hbn hdv hall' hlt'
      repeat (first
        | with_reducible first | refine W_seq ?_ | refine W_skip ?_ | refine W_label ?_ | refine W_ret ?_ | refine W_exit ?_ | refine W_block ?_ | refine thenI ?_ | refine thenRet ?_ | refine thenExit ?_ | refine blockRet ?_ | refine blockI ?_ | refine blockExit ?_ | refine blockExitNe rfl ?_
        | (with_reducible refine W_region_k ?_
           intro K hK
           simp (maxSteps := 2000000) (disch := omega) only [SA, ofValue, ofCell, bin, intBin, un, idx, Go.Ev.builtin, calleeOf, V.isNilS, V.depthOk, depth1, V.ok1, V.isAgg, V.cells, isConst, Nat.reduceBEq, Nat.reduceEqDiff, ↓reduceIte, Nat.reduceLeDiff, Nat.reduceAdd, Nat.reduceMul, Nat.reduceSub, Nat.reduceLT, Int.reduceAdd, Int.reduceSub, Int.reduceMul, Int.reduceLT, Int.reduceLE, Int.reduceToNat, Int.reduceNeg, reduceIte, reduceCtorEq, SPx, h0, h25, h26, hb, hnv, q1]
           refine hK _ _ ?_
           clear hK K)
      )
      with_reducible refine W_cond2 (by simp only [SO, ofValue, ofCell, Nat.reduceBEq, Nat.reduceEqDiff, ↓reduceIte]; rfl) (fun h => ?_) (fun h => ?_)
      · repeat (first
          | with_reducible first | refine W_seq ?_ | refine W_skip ?_ | refine W_label ?_ | refine W_ret ?_ | refine W_exit ?_ | refine W_block ?_ | refine thenI ?_ | refine thenRet ?_ | refine thenExit ?_ | refine blockRet ?_ | refine blockI ?_ | refine blockExit ?_ | refine blockExitNe rfl ?_
          | (with_reducible refine W_region_k ?_
             intro K hK
             simp (maxSteps := 2000000) (disch := omega) only [SA, ofValue, ofCell, bin, intBin, un, idx, Go.Ev.builtin, calleeOf, V.isNilS, V.depthOk, depth1, V.ok1, V.isAgg, V.cells, isConst, Nat.reduceBEq, Nat.reduceEqDiff, ↓reduceIte, Nat.reduceLeDiff, Nat.reduceAdd, Nat.reduceMul, Nat.reduceSub, Nat.reduceLT, Int.reduceAdd, Int.reduceSub, Int.reduceMul, Int.reduceLT, Int.reduceLE, Int.reduceToNat, Int.reduceNeg, reduceIte, reduceCtorEq, SPx]
             refine hK _ _ ?_
             clear hK K)
        )
        refine end_ret hd (by simp (maxSteps := 2000000) (disch := omega) only [Tryd.results92, resVars, resVar, SA, ofValue, ofCell, bin, intBin, un, idx, Go.Ev.builtin, calleeOf, V.isNilS, V.depthOk, depth1, V.ok1, V.isAgg, V.cells, isConst, Nat.reduceBEq, Nat.reduceEqDiff, ↓reduceIte, Nat.reduceLeDiff, Nat.reduceAdd, Nat.reduceMul, Nat.reduceSub, Nat.reduceLT, Int.reduceAdd, Int.reduceSub, Int.reduceMul, Int.reduceLT, Int.reduceLE, Int.reduceToNat, Int.reduceNeg, reduceIte, reduceCtorEq, SPx]; rfl) ?_
        simp (maxSteps := 2000000) (disch := omega) only [SA, ofValue, ofCell, bin, intBin, un, idx, Go.Ev.builtin, calleeOf, V.isNilS, V.depthOk, depth1, V.ok1, V.isAgg, V.cells, isConst, Nat.reduceBEq, Nat.reduceEqDiff, ↓reduceIte, Nat.reduceLeDiff, Nat.reduceAdd, Nat.reduceMul, Nat.reduceSub, Nat.reduceLT, Int.reduceAdd, Int.reduceSub, Int.reduceMul, Int.reduceLT, Int.reduceLE, Int.reduceToNat, Int.reduceNeg, reduceIte, reduceCtorEq, true_and, and_true, Nat.zero_add, Nat.le_refl, if_true, ↓reduceIte, resOf, X_own, mv_int, mv_bool, mv_str, mv_sl, mv_nilS, mv_tup, mv2s_nil, mv2s_cons, mv2_int, mv2_bool, mv2_str, mv2_sl, mv2_nilS, Option.map_some, vi, vn, SPx]
        rfl
      · simp at h
    by_cases q2 : (n : Int) > 57
    · rw [hbn (by omega)]
      clear hbn hdv hall' hlt'
      repeat (first
        | with_reducible first | refine W_seq ?_ | refine W_skip ?_ | refine W_label ?_ | refine W_ret ?_ | refine W_exit ?_ | refine W_block ?_ | refine thenI ?_ | refine thenRet ?_ | refine thenExit ?_ | refine blockRet ?_ | refine blockI ?_ | refine blockExit ?_ | refine blockExitNe rfl ?_
        | (with_reducible refine W_region_k ?_
           intro K hK
           simp (maxSteps := 2000000) (disch := omega) only [SA, ofValue, ofCell, bin, intBin, un, idx, Go.Ev.builtin, calleeOf, V.isNilS, V.depthOk, depth1, V.ok1, V.isAgg, V.cells, isConst, Nat.reduceBEq, Nat.reduceEqDiff, ↓reduceIte, Nat.reduceLeDiff, Nat.reduceAdd, Nat.reduceMul, Nat.reduceSub, Nat.reduceLT, Int.reduceAdd, Int.reduceSub, Int.reduceMul, Int.reduceLT, Int.reduceLE, Int.reduceToNat, Int.reduceNeg, reduceIte, reduceCtorEq, SPx, h0, h25, h26, hb, hnv, q1, q2]
           refine hK _ _ ?_
           clear hK K)
      )
      with_reducible refine W_cond2 (by simp only [SO, ofValue, ofCell, Nat.reduceBEq, Nat.reduceEqDiff, ↓reduceIte]; rfl) (fun h => ?_) (fun h => ?_)
      · repeat (first
          | with_reducible first | refine W_seq ?_ | refine W_skip ?_ | refine W_label ?_ | refine W_ret ?_ | refine W_exit ?_ | refine W_block ?_ | refine thenI ?_ | refine thenRet ?_ | refine thenExit ?_ | refine blockRet ?_ | refine blockI ?_ | refine blockExit ?_ | refine blockExitNe rfl ?_
          | (with_reducible refine W_region_k ?_
             intro K hK
             simp (maxSteps := 2000000) (disch := omega) only [SA, ofValue, ofCell, bin, intBin, un, idx, Go.Ev.builtin, calleeOf, V.isNilS, V.depthOk, depth1, V.ok1, V.isAgg, V.cells, isConst, Nat.reduceBEq, Nat.reduceEqDiff, ↓reduceIte, Nat.reduceLeDiff, Nat.reduceAdd, Nat.reduceMul, Nat.reduceSub, Nat.reduceLT, Int.reduceAdd, Int.reduceSub, Int.reduceMul, Int.reduceLT, Int.reduceLE, Int.reduceToNat, Int.reduceNeg, reduceIte, reduceCtorEq, SPx]
             refine hK _ _ ?_
             clear hK K)
        )
        refine end_ret hd (by simp (maxSteps := 2000000) (disch := omega) only [Tryd.results92, resVars, resVar, SA, ofValue, ofCell, bin, intBin, un, idx, Go.Ev.builtin, calleeOf, V.isNilS, V.depthOk, depth1, V.ok1, V.isAgg, V.cells, isConst, Nat.reduceBEq, Nat.reduceEqDiff, ↓reduceIte, Nat.reduceLeDiff, Nat.reduceAdd, Nat.reduceMul, Nat.reduceSub, Nat.reduceLT, Int.reduceAdd, Int.reduceSub, Int.reduceMul, Int.reduceLT, Int.reduceLE, Int.reduceToNat, Int.reduceNeg, reduceIte, reduceCtorEq, SPx]; rfl) ?_
        simp (maxSteps := 2000000) (disch := omega) only [SA, ofValue, ofCell, bin, intBin, un, idx, Go.Ev.builtin, calleeOf, V.isNilS, V.depthOk, depth1, V.ok1, V.isAgg, V.cells, isConst, Nat.reduceBEq, Nat.reduceEqDiff, ↓reduceIte, Nat.reduceLeDiff, Nat.reduceAdd, Nat.reduceMul, Nat.reduceSub, Nat.reduceLT, Int.reduceAdd, Int.reduceSub, Int.reduceMul, Int.reduceLT, Int.reduceLE, Int.reduceToNat, Int.reduceNeg, reduceIte, reduceCtorEq, true_and, and_true, Nat.zero_add, Nat.le_refl, if_true, ↓reduceIte, resOf, X_own, mv_int, mv_bool, mv_str, mv_sl, mv_nilS, mv_tup, mv2s_nil, mv2s_cons, mv2_int, mv2_bool, mv2_str, mv2_sl, mv2_nilS, Option.map_some, vi, vn, SPx]
        rfl
      · simp at h
    have hall' := hall' (by omega)
    have hlt' := hlt' (by omega)
    have h48 : 48 ≤ n := by omega
    have hsub : V.int .u8 (wr .u8 ((n : Int) - 48)) = V.int .u8 ((n : Int) - 48) := by
      congr 1
      have e : (n : Int) - 48 = ((n - 48 : Nat) : Int) := by omega
      rw [e]; exact wr_u8 (by omega)
    have hmul : V.int .i64 (wr .i64 (10 * (v : Int))) = V.int .i64 (10 * (v : Int)) := by rw [wr_i64 (by omega) (by omega)]
    have hadd : V.int .i64 (wr .i64 (10 * (v : Int) + ((n : Int) - 48))) = V.int .i64 (v' : Int) := by
      rw [wr_i64 (by omega) (by omega)]; congr 1; omega
    have hcv : V.int .i64 (wr .i64 ((n : Int) - 48)) = V.int .i64 ((n : Int) - 48) := by rw [wr_i64 (by omega) (by omega)]
    have hkk : V.int .i64 (wr .i64 ((k : Int) + 1)) = V.int .i64 ((k + 1 : Nat) : Int) := by rw [wr_i64 (by omega) (by omega)]; rfl
    have hall' : k < s.length ∧ ∀ x ∈ List.take (k + 1) s, 48 ≤ x.toNat ∧ x.toNat ≤ 57 := ⟨hk', hall'⟩
    clear hbn hdv hk hl2
    repeat (first
      | with_reducible first | refine W_seq ?_ | refine W_skip ?_ | refine W_label ?_ | refine W_ret ?_ | refine W_exit ?_ | refine W_block ?_ | refine thenI ?_ | refine thenRet ?_ | refine thenExit ?_ | refine blockRet ?_ | refine blockI ?_ | refine blockExit ?_ | refine blockExitNe rfl ?_
      | (with_reducible refine W_region_k ?_
         intro K hK
         simp (maxSteps := 2000000) (disch := omega) only [SA, ofValue, ofCell, bin, intBin, un, idx, Go.Ev.builtin, calleeOf, V.isNilS, V.depthOk, depth1, V.ok1, V.isAgg, V.cells, isConst, Nat.reduceBEq, Nat.reduceEqDiff, ↓reduceIte, Nat.reduceLeDiff, Nat.reduceAdd, Nat.reduceMul, Nat.reduceSub, Nat.reduceLT, Int.reduceAdd, Int.reduceSub, Int.reduceMul, Int.reduceLT, Int.reduceLE, Int.reduceToNat, Int.reduceNeg, reduceIte, reduceCtorEq, SPx, h0, h4, h25, h26, hb, hnv, q1, q2]
         refine hK _ _ ?_
         clear hK K)
    )
    with_reducible refine W_cond2 (by simp only [SO, ofValue, ofCell, Nat.reduceBEq, Nat.reduceEqDiff, ↓reduceIte]; rfl) (fun h => ?_) (fun h => ?_)
    · simp at h
    repeat (first
      | with_reducible first | refine W_seq ?_ | refine W_skip ?_ | refine W_label ?_ | refine W_ret ?_ | refine W_exit ?_ | refine W_block ?_ | refine thenI ?_ | refine thenRet ?_ | refine thenExit ?_ | refine blockRet ?_ | refine blockI ?_ | refine blockExit ?_ | refine blockExitNe rfl ?_
      | (with_reducible refine W_region_k ?_
         intro K hK
         simp (maxSteps := 2000000) (disch := omega) only [SA, ofValue, ofCell, bin, intBin, un, idx, Go.Ev.builtin, calleeOf, V.isNilS, V.depthOk, depth1, V.ok1, V.isAgg, V.cells, isConst, Nat.reduceBEq, Nat.reduceEqDiff, ↓reduceIte, Nat.reduceLeDiff, Nat.reduceAdd, Nat.reduceMul, Nat.reduceSub, Nat.reduceLT, Int.reduceAdd, Int.reduceSub, Int.reduceMul, Int.reduceLT, Int.reduceLE, Int.reduceToNat, Int.reduceNeg, reduceIte, reduceCtorEq, SPx, h0, h4, h25, h26, hb, hnv, hsub, hmul, hadd, hcv, hkk]
         refine hK _ _ ?_
         clear hK K)
    )
    refine ⟨k + 1, ⟨hd, ?_, ?_, ?_, ?_, hk', by rw [hv']; exact hlt', hall'.2⟩, by omega⟩
    all_goals (try simp (maxSteps := 2000000) (disch := omega) only [SO, ofValue, ofCell, Nat.reduceBEq, Nat.reduceEqDiff, ↓reduceIte, and_self, and_true, true_and, Mem.newRef_eq, Mem.gen_nil, Mem.gen_new, Mem.gen_set, Mem.row_new, Mem.row_setW, Mem.new_out, Mem.set_out, List.length_nil, List.length_cons, Nat.zero_le, Nat.le_refl, Nat.reduceLeDiff, Nat.reduceAdd, and_self, and_true, true_and, Nat.zero_add, h0, h25, hv'])
  · have hk' : k = s.length := by have := of_decide_eq_false h; omega
    rw [hk', List.take_length] at h4 hall
    rw [hyes (List.all_eq_true.2 fun b hb => by have := hall b hb; simp only [Bool.and_eq_true, decide_eq_true_eq]; exact this)]
    clear hall hyes hno h hv
    repeat (first
      | with_reducible first | refine W_seq ?_ | refine W_skip ?_ | refine W_label ?_ | refine W_ret ?_ | refine W_exit ?_ | refine W_block ?_ | refine thenI ?_ | refine thenRet ?_ | refine thenExit ?_ | refine blockRet ?_ | refine blockI ?_ | refine blockExit ?_ | refine blockExitNe rfl ?_
      | (with_reducible refine W_region_k ?_
         intro K hK
         simp (maxSteps := 2000000) (disch := omega) only [SA, ofValue, ofCell, bin, intBin, un, idx, Go.Ev.builtin, calleeOf, V.isNilS, V.depthOk, depth1, V.ok1, V.isAgg, V.cells, isConst, Nat.reduceBEq, Nat.reduceEqDiff, ↓reduceIte, Nat.reduceLeDiff, Nat.reduceAdd, Nat.reduceMul, Nat.reduceSub, Nat.reduceLT, Int.reduceAdd, Int.reduceSub, Int.reduceMul, Int.reduceLT, Int.reduceLE, Int.reduceToNat, Int.reduceNeg, reduceIte, reduceCtorEq, SPx, h4]
         refine hK _ _ ?_
         clear hK K)
    )
    refine end_ret hd (by simp (maxSteps := 2000000) (disch := omega) only [Tryd.results92, resVars, resVar, SA, ofValue, ofCell, bin, intBin, un, idx, Go.Ev.builtin, calleeOf, V.isNilS, V.depthOk, depth1, V.ok1, V.isAgg, V.cells, isConst, Nat.reduceBEq, Nat.reduceEqDiff, ↓reduceIte, Nat.reduceLeDiff, Nat.reduceAdd, Nat.reduceMul, Nat.reduceSub, Nat.reduceLT, Int.reduceAdd, Int.reduceSub, Int.reduceMul, Int.reduceLT, Int.reduceLE, Int.reduceToNat, Int.reduceNeg, reduceIte, reduceCtorEq, SPx]; rfl) ?_
    simp (maxSteps := 2000000) (disch := omega) only [SA, ofValue, ofCell, bin, intBin, un, idx, Go.Ev.builtin, calleeOf, V.isNilS, V.depthOk, depth1, V.ok1, V.isAgg, V.cells, isConst, Nat.reduceBEq, Nat.reduceEqDiff, ↓reduceIte, Nat.reduceLeDiff, Nat.reduceAdd, Nat.reduceMul, Nat.reduceSub, Nat.reduceLT, Int.reduceAdd, Int.reduceSub, Int.reduceMul, Int.reduceLT, Int.reduceLE, Int.reduceToNat, Int.reduceNeg, reduceIte, reduceCtorEq, true_and, and_true, Nat.zero_add, Nat.le_refl, if_true, ↓reduceIte, resOf, X_own, mv_int, mv_bool, mv_str, mv_sl, mv_nilS, mv_tup, mv2s_nil, mv2s_cons, mv2_int, mv2_bool, mv2_str, mv2_sl, mv2_nilS, Option.map_some, vi, vn, SPx]
end Go.Proofs.YtpocekfifokndaaDoor
