/- Part 2 of the proof: an evaluator of the program, proved sound against the model, and what the functions of the program compute. No condition but those each theorem states. -/
import Derived.Test.YtpocekfifokndaaDoorG1
set_option linter.unusedSimpArgs false
set_option linter.unusedVariables false
namespace Go.Proofs.YtpocekfifokndaaDoor
open Go Go.Ev Go.Pl
set_option maxRecDepth 100000
theorem _root_.Go.Ev.Ans.iffx {X : Env} {f : FuncId} {args : List V} {v : V} (h : Ans X f args (.ret v)) (m : Mem) (dst : Nat) (K KP : V → Mem → Prop) : CallQ X f args m dst K KP ↔ K v m := h.iff
theorem _root_.Go.Ev.Ans.panicsx {X : Env} {f : FuncId} {args : List V} {v : V} (h : Ans X f args (.panic v)) (m : Mem) (dst : Nat) (K KP : V → Mem → Prop) : CallQ X f args m dst K KP ↔ KP v m := h.panics
theorem aI {A B : Prop} (a : A) (b : B) : A ∧ B := ⟨a, b⟩
theorem g0 {F P G : Prop} (f : F) (g : G) (h : F → G → P := by
  intro F hG
  repeat (first
  | with_reducible first | refine W_seq ?_ | refine W_skip ?_ | refine W_label ?_ | refine W_ret ?_ | refine W_exit ?_ | refine W_block ?_ | refine thenI ?_ | refine thenRet ?_ | refine thenExit ?_ | refine blockRet ?_ | refine blockI ?_ | refine blockExit ?_ | refine blockExitNe rfl ?_
  | (with_reducible refine W_region_k ?_
     intro K hK
     simp (maxSteps := 2000000) (disch := omega) only [SA, ofValue, ofCell, bin, intBin, un, idx, Go.Ev.builtin, calleeOf, V.isNilS, V.depthOk, depth1, V.ok1, V.isAgg, V.cells, isConst, Nat.reduceBEq, Nat.reduceEqDiff, ↓reduceIte, Nat.reduceLeDiff, Nat.reduceAdd, Nat.reduceMul, Nat.reduceSub, Nat.reduceLT, Int.reduceAdd, Int.reduceSub, Int.reduceMul, Int.reduceLT, Int.reduceLE, Int.reduceToNat, Int.reduceNeg, reduceIte, reduceCtorEq, F]
     refine hK _ _ ?_
     clear hK K)
  | (with_reducible refine W_draw_k (by decide +kernel) ?_
     intro K hK
     simp (maxSteps := 2000000) (disch := omega) only [SA, ofValue, ofCell, bin, intBin, un, idx, Go.Ev.builtin, calleeOf, V.isNilS, V.depthOk, depth1, V.ok1, V.isAgg, V.cells, isConst, Nat.reduceBEq, Nat.reduceEqDiff, ↓reduceIte, Nat.reduceLeDiff, Nat.reduceAdd, Nat.reduceMul, Nat.reduceSub, Nat.reduceLT, Int.reduceAdd, Int.reduceSub, Int.reduceMul, Int.reduceLT, Int.reduceLE, Int.reduceToNat, Int.reduceNeg, reduceIte, reduceCtorEq, SD, F]
     repeat (refine ⟨by decide +kernel, ?_⟩)
     refine hK _ _ ?_
     clear hK K))
  exact hG) : P := h f g
theorem gP {F P G : Prop} (f : F) (g : G) (h : F → G → P := by
  intro F hG
  repeat (first
  | with_reducible first | refine W_seq ?_ | refine W_skip ?_ | refine W_label ?_ | refine W_ret ?_ | refine W_exit ?_ | refine W_block ?_ | refine thenI ?_ | refine thenRet ?_ | refine thenExit ?_ | refine blockRet ?_ | refine blockI ?_ | refine blockExit ?_ | refine blockExitNe rfl ?_
  | (with_reducible refine W_region_k ?_
     intro K hK
     simp (maxSteps := 2000000) (disch := omega) only [SA, ofValue, ofCell, bin, intBin, un, idx, Go.Ev.builtin, calleeOf, V.isNilS, V.depthOk, depth1, V.ok1, V.isAgg, V.cells, isConst, Nat.reduceBEq, Nat.reduceEqDiff, ↓reduceIte, Nat.reduceLeDiff, Nat.reduceAdd, Nat.reduceMul, Nat.reduceSub, Nat.reduceLT, Int.reduceAdd, Int.reduceSub, Int.reduceMul, Int.reduceLT, Int.reduceLE, Int.reduceToNat, Int.reduceNeg, reduceIte, reduceCtorEq, SPx, F]
     refine hK _ _ ?_
     clear hK K)
  | (with_reducible refine W_draw_k (by decide +kernel) ?_
     intro K hK
     simp (maxSteps := 2000000) (disch := omega) only [SA, ofValue, ofCell, bin, intBin, un, idx, Go.Ev.builtin, calleeOf, V.isNilS, V.depthOk, depth1, V.ok1, V.isAgg, V.cells, isConst, Nat.reduceBEq, Nat.reduceEqDiff, ↓reduceIte, Nat.reduceLeDiff, Nat.reduceAdd, Nat.reduceMul, Nat.reduceSub, Nat.reduceLT, Int.reduceAdd, Int.reduceSub, Int.reduceMul, Int.reduceLT, Int.reduceLE, Int.reduceToNat, Int.reduceNeg, reduceIte, reduceCtorEq, SD, SPx, F]
     repeat (refine ⟨by decide +kernel, ?_⟩)
     refine hK _ _ ?_
     clear hK K))
  exact hG) : P := h f g
theorem gPW {F P G : Prop} (f : F) (g : G) (h : F → G → P := by
  intro F hG
  repeat (first
  | with_reducible first | refine W_seq ?_ | refine W_skip ?_ | refine W_label ?_ | refine W_ret ?_ | refine W_exit ?_ | refine W_block ?_ | refine thenI ?_ | refine thenRet ?_ | refine thenExit ?_ | refine blockRet ?_ | refine blockI ?_ | refine blockExit ?_ | refine blockExitNe rfl ?_
  | (with_reducible refine W_region_k ?_
     intro K hK
     simp (maxSteps := 2000000) (disch := omega) only [SA, ofValue, ofCell, bin, intBin, un, idx, Go.Ev.builtin, calleeOf, V.isNilS, V.depthOk, depth1, V.ok1, V.isAgg, V.cells, isConst, Nat.reduceBEq, Nat.reduceEqDiff, ↓reduceIte, Nat.reduceLeDiff, Nat.reduceAdd, Nat.reduceMul, Nat.reduceSub, Nat.reduceLT, Int.reduceAdd, Int.reduceSub, Int.reduceMul, Int.reduceLT, Int.reduceLE, Int.reduceToNat, Int.reduceNeg, reduceIte, reduceCtorEq, SPx, SWx, F]
     refine hK _ _ ?_
     clear hK K)
  | (with_reducible refine W_draw_k (by decide +kernel) ?_
     intro K hK
     simp (maxSteps := 2000000) (disch := omega) only [SA, ofValue, ofCell, bin, intBin, un, idx, Go.Ev.builtin, calleeOf, V.isNilS, V.depthOk, depth1, V.ok1, V.isAgg, V.cells, isConst, Nat.reduceBEq, Nat.reduceEqDiff, ↓reduceIte, Nat.reduceLeDiff, Nat.reduceAdd, Nat.reduceMul, Nat.reduceSub, Nat.reduceLT, Int.reduceAdd, Int.reduceSub, Int.reduceMul, Int.reduceLT, Int.reduceLE, Int.reduceToNat, Int.reduceNeg, reduceIte, reduceCtorEq, SD, SPx, SWx, F]
     repeat (refine ⟨by decide +kernel, ?_⟩)
     refine hK _ _ ?_
     clear hK K))
  exact hG) : P := h f g
theorem gPS {F P G : Prop} (f : F) (g : G) (h : F → G → P := by
  intro F hG
  repeat (first
  | with_reducible first | refine W_seq ?_ | refine W_skip ?_ | refine W_label ?_ | refine W_ret ?_ | refine W_exit ?_ | refine W_block ?_ | refine thenI ?_ | refine thenRet ?_ | refine thenExit ?_ | refine blockRet ?_ | refine blockI ?_ | refine blockExit ?_ | refine blockExitNe rfl ?_
  | (with_reducible refine W_region_k ?_
     intro K hK
     simp (maxSteps := 2000000) (disch := omega) only [SA, ofValue, ofCell, bin, intBin, un, idx, Go.Ev.builtin, calleeOf, V.isNilS, V.depthOk, depth1, V.ok1, V.isAgg, V.cells, isConst, Nat.reduceBEq, Nat.reduceEqDiff, ↓reduceIte, Nat.reduceLeDiff, Nat.reduceAdd, Nat.reduceMul, Nat.reduceSub, Nat.reduceLT, Int.reduceAdd, Int.reduceSub, Int.reduceMul, Int.reduceLT, Int.reduceLE, Int.reduceToNat, Int.reduceNeg, reduceIte, reduceCtorEq, SPx, SSx, appendTo, elemsOf, F]
     refine hK _ _ ?_
     clear hK K)
  | (with_reducible refine W_draw_k (by decide +kernel) ?_
     intro K hK
     simp (maxSteps := 2000000) (disch := omega) only [SA, ofValue, ofCell, bin, intBin, un, idx, Go.Ev.builtin, calleeOf, V.isNilS, V.depthOk, depth1, V.ok1, V.isAgg, V.cells, isConst, Nat.reduceBEq, Nat.reduceEqDiff, ↓reduceIte, Nat.reduceLeDiff, Nat.reduceAdd, Nat.reduceMul, Nat.reduceSub, Nat.reduceLT, Int.reduceAdd, Int.reduceSub, Int.reduceMul, Int.reduceLT, Int.reduceLE, Int.reduceToNat, Int.reduceNeg, reduceIte, reduceCtorEq, SD, SPx, SSx, appendTo, elemsOf, F]
     repeat (refine ⟨by decide +kernel, ?_⟩)
     refine hK _ _ ?_
     clear hK K))
  exact hG) : P := h f g
theorem gPA {F P G : Prop} (f : F) (g : G) (h : F → G → P := by
  intro F hG
  repeat (first
  | with_reducible first | refine W_seq ?_ | refine W_skip ?_ | refine W_label ?_ | refine W_ret ?_ | refine W_exit ?_ | refine W_block ?_ | refine thenI ?_ | refine thenRet ?_ | refine thenExit ?_ | refine blockRet ?_ | refine blockI ?_ | refine blockExit ?_ | refine blockExitNe rfl ?_
  | (with_reducible refine W_region_k ?_
     intro K hK
     simp (maxSteps := 2000000) (disch := omega) only [SA, ofValue, ofCell, bin, intBin, un, idx, Go.Ev.builtin, calleeOf, V.isNilS, V.depthOk, depth1, V.ok1, V.isAgg, V.cells, isConst, Nat.reduceBEq, Nat.reduceEqDiff, ↓reduceIte, Nat.reduceLeDiff, Nat.reduceAdd, Nat.reduceMul, Nat.reduceSub, Nat.reduceLT, Int.reduceAdd, Int.reduceSub, Int.reduceMul, Int.reduceLT, Int.reduceLE, Int.reduceToNat, Int.reduceNeg, reduceIte, reduceCtorEq, SPx, SAx, F]
     refine hK _ _ ?_
     clear hK K)
  | (with_reducible refine W_draw_k (by decide +kernel) ?_
     intro K hK
     simp (maxSteps := 2000000) (disch := omega) only [SA, ofValue, ofCell, bin, intBin, un, idx, Go.Ev.builtin, calleeOf, V.isNilS, V.depthOk, depth1, V.ok1, V.isAgg, V.cells, isConst, Nat.reduceBEq, Nat.reduceEqDiff, ↓reduceIte, Nat.reduceLeDiff, Nat.reduceAdd, Nat.reduceMul, Nat.reduceSub, Nat.reduceLT, Int.reduceAdd, Int.reduceSub, Int.reduceMul, Int.reduceLT, Int.reduceLE, Int.reduceToNat, Int.reduceNeg, reduceIte, reduceCtorEq, SD, SPx, SAx, F]
     repeat (refine ⟨by decide +kernel, ?_⟩)
     refine hK _ _ ?_
     clear hK K))
  exact hG) : P := h f g
theorem gPC {F P G : Prop} (f : F) (g : G) (h : F → G → P := by
  intro F hG
  repeat (first
  | with_reducible first | refine W_seq ?_ | refine W_skip ?_ | refine W_label ?_ | refine W_ret ?_ | refine W_exit ?_ | refine W_block ?_ | refine thenI ?_ | refine thenRet ?_ | refine thenExit ?_ | refine blockRet ?_ | refine blockI ?_ | refine blockExit ?_ | refine blockExitNe rfl ?_
  | (with_reducible refine W_region_k ?_
     intro K hK
     simp (maxSteps := 2000000) (disch := omega) only [SA, ofValue, ofCell, bin, intBin, un, idx, Go.Ev.builtin, calleeOf, V.isNilS, V.depthOk, depth1, V.ok1, V.isAgg, V.cells, isConst, Nat.reduceBEq, Nat.reduceEqDiff, ↓reduceIte, Nat.reduceLeDiff, Nat.reduceAdd, Nat.reduceMul, Nat.reduceSub, Nat.reduceLT, Int.reduceAdd, Int.reduceSub, Int.reduceMul, Int.reduceLT, Int.reduceLE, Int.reduceToNat, Int.reduceNeg, reduceIte, reduceCtorEq, SPx, SCx, Int.reduceEq, F]
     refine hK _ _ ?_
     clear hK K)
  | (with_reducible refine W_draw_k (by decide +kernel) ?_
     intro K hK
     simp (maxSteps := 2000000) (disch := omega) only [SA, ofValue, ofCell, bin, intBin, un, idx, Go.Ev.builtin, calleeOf, V.isNilS, V.depthOk, depth1, V.ok1, V.isAgg, V.cells, isConst, Nat.reduceBEq, Nat.reduceEqDiff, ↓reduceIte, Nat.reduceLeDiff, Nat.reduceAdd, Nat.reduceMul, Nat.reduceSub, Nat.reduceLT, Int.reduceAdd, Int.reduceSub, Int.reduceMul, Int.reduceLT, Int.reduceLE, Int.reduceToNat, Int.reduceNeg, reduceIte, reduceCtorEq, SD, SPx, SCx, Int.reduceEq, F]
     repeat (refine ⟨by decide +kernel, ?_⟩)
     refine hK _ _ ?_
     clear hK K))
  exact hG) : P := h f g
theorem gPSW {F P G : Prop} (f : F) (g : G) (h : F → G → P := by
  intro F hG
  repeat (first
  | with_reducible first | refine W_seq ?_ | refine W_skip ?_ | refine W_label ?_ | refine W_ret ?_ | refine W_exit ?_ | refine W_block ?_ | refine thenI ?_ | refine thenRet ?_ | refine thenExit ?_ | refine blockRet ?_ | refine blockI ?_ | refine blockExit ?_ | refine blockExitNe rfl ?_
  | (with_reducible refine W_region_k ?_
     intro K hK
     simp (maxSteps := 2000000) (disch := omega) only [SA, ofValue, ofCell, bin, intBin, un, idx, Go.Ev.builtin, calleeOf, V.isNilS, V.depthOk, depth1, V.ok1, V.isAgg, V.cells, isConst, Nat.reduceBEq, Nat.reduceEqDiff, ↓reduceIte, Nat.reduceLeDiff, Nat.reduceAdd, Nat.reduceMul, Nat.reduceSub, Nat.reduceLT, Int.reduceAdd, Int.reduceSub, Int.reduceMul, Int.reduceLT, Int.reduceLE, Int.reduceToNat, Int.reduceNeg, reduceIte, reduceCtorEq, SPx, SSx, appendTo, elemsOf, SWx, F]
     refine hK _ _ ?_
     clear hK K)
  | (with_reducible refine W_draw_k (by decide +kernel) ?_
     intro K hK
     simp (maxSteps := 2000000) (disch := omega) only [SA, ofValue, ofCell, bin, intBin, un, idx, Go.Ev.builtin, calleeOf, V.isNilS, V.depthOk, depth1, V.ok1, V.isAgg, V.cells, isConst, Nat.reduceBEq, Nat.reduceEqDiff, ↓reduceIte, Nat.reduceLeDiff, Nat.reduceAdd, Nat.reduceMul, Nat.reduceSub, Nat.reduceLT, Int.reduceAdd, Int.reduceSub, Int.reduceMul, Int.reduceLT, Int.reduceLE, Int.reduceToNat, Int.reduceNeg, reduceIte, reduceCtorEq, SD, SPx, SSx, appendTo, elemsOf, SWx, F]
     repeat (refine ⟨by decide +kernel, ?_⟩)
     refine hK _ _ ?_
     clear hK K))
  exact hG) : P := h f g
theorem gPAS {F P G : Prop} (f : F) (g : G) (h : F → G → P := by
  intro F hG
  repeat (first
  | with_reducible first | refine W_seq ?_ | refine W_skip ?_ | refine W_label ?_ | refine W_ret ?_ | refine W_exit ?_ | refine W_block ?_ | refine thenI ?_ | refine thenRet ?_ | refine thenExit ?_ | refine blockRet ?_ | refine blockI ?_ | refine blockExit ?_ | refine blockExitNe rfl ?_
  | (with_reducible refine W_region_k ?_
     intro K hK
     simp (maxSteps := 2000000) (disch := omega) only [SA, ofValue, ofCell, bin, intBin, un, idx, Go.Ev.builtin, calleeOf, V.isNilS, V.depthOk, depth1, V.ok1, V.isAgg, V.cells, isConst, Nat.reduceBEq, Nat.reduceEqDiff, ↓reduceIte, Nat.reduceLeDiff, Nat.reduceAdd, Nat.reduceMul, Nat.reduceSub, Nat.reduceLT, Int.reduceAdd, Int.reduceSub, Int.reduceMul, Int.reduceLT, Int.reduceLE, Int.reduceToNat, Int.reduceNeg, reduceIte, reduceCtorEq, SPx, SAx, SSx, appendTo, elemsOf, F]
     refine hK _ _ ?_
     clear hK K)
  | (with_reducible refine W_draw_k (by decide +kernel) ?_
     intro K hK
     simp (maxSteps := 2000000) (disch := omega) only [SA, ofValue, ofCell, bin, intBin, un, idx, Go.Ev.builtin, calleeOf, V.isNilS, V.depthOk, depth1, V.ok1, V.isAgg, V.cells, isConst, Nat.reduceBEq, Nat.reduceEqDiff, ↓reduceIte, Nat.reduceLeDiff, Nat.reduceAdd, Nat.reduceMul, Nat.reduceSub, Nat.reduceLT, Int.reduceAdd, Int.reduceSub, Int.reduceMul, Int.reduceLT, Int.reduceLE, Int.reduceToNat, Int.reduceNeg, reduceIte, reduceCtorEq, SD, SPx, SAx, SSx, appendTo, elemsOf, F]
     repeat (refine ⟨by decide +kernel, ?_⟩)
     refine hK _ _ ?_
     clear hK K))
  exact hG) : P := h f g
theorem gPAW {F P G : Prop} (f : F) (g : G) (h : F → G → P := by
  intro F hG
  repeat (first
  | with_reducible first | refine W_seq ?_ | refine W_skip ?_ | refine W_label ?_ | refine W_ret ?_ | refine W_exit ?_ | refine W_block ?_ | refine thenI ?_ | refine thenRet ?_ | refine thenExit ?_ | refine blockRet ?_ | refine blockI ?_ | refine blockExit ?_ | refine blockExitNe rfl ?_
  | (with_reducible refine W_region_k ?_
     intro K hK
     simp (maxSteps := 2000000) (disch := omega) only [SA, ofValue, ofCell, bin, intBin, un, idx, Go.Ev.builtin, calleeOf, V.isNilS, V.depthOk, depth1, V.ok1, V.isAgg, V.cells, isConst, Nat.reduceBEq, Nat.reduceEqDiff, ↓reduceIte, Nat.reduceLeDiff, Nat.reduceAdd, Nat.reduceMul, Nat.reduceSub, Nat.reduceLT, Int.reduceAdd, Int.reduceSub, Int.reduceMul, Int.reduceLT, Int.reduceLE, Int.reduceToNat, Int.reduceNeg, reduceIte, reduceCtorEq, SPx, SAx, SWx, F]
     refine hK _ _ ?_
     clear hK K)
  | (with_reducible refine W_draw_k (by decide +kernel) ?_
     intro K hK
     simp (maxSteps := 2000000) (disch := omega) only [SA, ofValue, ofCell, bin, intBin, un, idx, Go.Ev.builtin, calleeOf, V.isNilS, V.depthOk, depth1, V.ok1, V.isAgg, V.cells, isConst, Nat.reduceBEq, Nat.reduceEqDiff, ↓reduceIte, Nat.reduceLeDiff, Nat.reduceAdd, Nat.reduceMul, Nat.reduceSub, Nat.reduceLT, Int.reduceAdd, Int.reduceSub, Int.reduceMul, Int.reduceLT, Int.reduceLE, Int.reduceToNat, Int.reduceNeg, reduceIte, reduceCtorEq, SD, SPx, SAx, SWx, F]
     repeat (refine ⟨by decide +kernel, ?_⟩)
     refine hK _ _ ?_
     clear hK K))
  exact hG) : P := h f g
theorem gPSC {F P G : Prop} (f : F) (g : G) (h : F → G → P := by
  intro F hG
  repeat (first
  | with_reducible first | refine W_seq ?_ | refine W_skip ?_ | refine W_label ?_ | refine W_ret ?_ | refine W_exit ?_ | refine W_block ?_ | refine thenI ?_ | refine thenRet ?_ | refine thenExit ?_ | refine blockRet ?_ | refine blockI ?_ | refine blockExit ?_ | refine blockExitNe rfl ?_
  | (with_reducible refine W_region_k ?_
     intro K hK
     simp (maxSteps := 2000000) (disch := omega) only [SA, ofValue, ofCell, bin, intBin, un, idx, Go.Ev.builtin, calleeOf, V.isNilS, V.depthOk, depth1, V.ok1, V.isAgg, V.cells, isConst, Nat.reduceBEq, Nat.reduceEqDiff, ↓reduceIte, Nat.reduceLeDiff, Nat.reduceAdd, Nat.reduceMul, Nat.reduceSub, Nat.reduceLT, Int.reduceAdd, Int.reduceSub, Int.reduceMul, Int.reduceLT, Int.reduceLE, Int.reduceToNat, Int.reduceNeg, reduceIte, reduceCtorEq, SPx, SSx, appendTo, elemsOf, SCx, Int.reduceEq, F]
     refine hK _ _ ?_
     clear hK K)
  | (with_reducible refine W_draw_k (by decide +kernel) ?_
     intro K hK
     simp (maxSteps := 2000000) (disch := omega) only [SA, ofValue, ofCell, bin, intBin, un, idx, Go.Ev.builtin, calleeOf, V.isNilS, V.depthOk, depth1, V.ok1, V.isAgg, V.cells, isConst, Nat.reduceBEq, Nat.reduceEqDiff, ↓reduceIte, Nat.reduceLeDiff, Nat.reduceAdd, Nat.reduceMul, Nat.reduceSub, Nat.reduceLT, Int.reduceAdd, Int.reduceSub, Int.reduceMul, Int.reduceLT, Int.reduceLE, Int.reduceToNat, Int.reduceNeg, reduceIte, reduceCtorEq, SD, SPx, SSx, appendTo, elemsOf, SCx, Int.reduceEq, F]
     repeat (refine ⟨by decide +kernel, ?_⟩)
     refine hK _ _ ?_
     clear hK K))
  exact hG) : P := h f g
theorem gPAC {F P G : Prop} (f : F) (g : G) (h : F → G → P := by
  intro F hG
  repeat (first
  | with_reducible first | refine W_seq ?_ | refine W_skip ?_ | refine W_label ?_ | refine W_ret ?_ | refine W_exit ?_ | refine W_block ?_ | refine thenI ?_ | refine thenRet ?_ | refine thenExit ?_ | refine blockRet ?_ | refine blockI ?_ | refine blockExit ?_ | refine blockExitNe rfl ?_
  | (with_reducible refine W_region_k ?_
     intro K hK
     simp (maxSteps := 2000000) (disch := omega) only [SA, ofValue, ofCell, bin, intBin, un, idx, Go.Ev.builtin, calleeOf, V.isNilS, V.depthOk, depth1, V.ok1, V.isAgg, V.cells, isConst, Nat.reduceBEq, Nat.reduceEqDiff, ↓reduceIte, Nat.reduceLeDiff, Nat.reduceAdd, Nat.reduceMul, Nat.reduceSub, Nat.reduceLT, Int.reduceAdd, Int.reduceSub, Int.reduceMul, Int.reduceLT, Int.reduceLE, Int.reduceToNat, Int.reduceNeg, reduceIte, reduceCtorEq, SPx, SAx, SCx, Int.reduceEq, F]
     refine hK _ _ ?_
     clear hK K)
  | (with_reducible refine W_draw_k (by decide +kernel) ?_
     intro K hK
     simp (maxSteps := 2000000) (disch := omega) only [SA, ofValue, ofCell, bin, intBin, un, idx, Go.Ev.builtin, calleeOf, V.isNilS, V.depthOk, depth1, V.ok1, V.isAgg, V.cells, isConst, Nat.reduceBEq, Nat.reduceEqDiff, ↓reduceIte, Nat.reduceLeDiff, Nat.reduceAdd, Nat.reduceMul, Nat.reduceSub, Nat.reduceLT, Int.reduceAdd, Int.reduceSub, Int.reduceMul, Int.reduceLT, Int.reduceLE, Int.reduceToNat, Int.reduceNeg, reduceIte, reduceCtorEq, SD, SPx, SAx, SCx, Int.reduceEq, F]
     repeat (refine ⟨by decide +kernel, ?_⟩)
     refine hK _ _ ?_
     clear hK K))
  exact hG) : P := h f g
theorem gPWC {F P G : Prop} (f : F) (g : G) (h : F → G → P := by
  intro F hG
  repeat (first
  | with_reducible first | refine W_seq ?_ | refine W_skip ?_ | refine W_label ?_ | refine W_ret ?_ | refine W_exit ?_ | refine W_block ?_ | refine thenI ?_ | refine thenRet ?_ | refine thenExit ?_ | refine blockRet ?_ | refine blockI ?_ | refine blockExit ?_ | refine blockExitNe rfl ?_
  | (with_reducible refine W_region_k ?_
     intro K hK
     simp (maxSteps := 2000000) (disch := omega) only [SA, ofValue, ofCell, bin, intBin, un, idx, Go.Ev.builtin, calleeOf, V.isNilS, V.depthOk, depth1, V.ok1, V.isAgg, V.cells, isConst, Nat.reduceBEq, Nat.reduceEqDiff, ↓reduceIte, Nat.reduceLeDiff, Nat.reduceAdd, Nat.reduceMul, Nat.reduceSub, Nat.reduceLT, Int.reduceAdd, Int.reduceSub, Int.reduceMul, Int.reduceLT, Int.reduceLE, Int.reduceToNat, Int.reduceNeg, reduceIte, reduceCtorEq, SPx, SWx, SCx, Int.reduceEq, F]
     refine hK _ _ ?_
     clear hK K)
  | (with_reducible refine W_draw_k (by decide +kernel) ?_
     intro K hK
     simp (maxSteps := 2000000) (disch := omega) only [SA, ofValue, ofCell, bin, intBin, un, idx, Go.Ev.builtin, calleeOf, V.isNilS, V.depthOk, depth1, V.ok1, V.isAgg, V.cells, isConst, Nat.reduceBEq, Nat.reduceEqDiff, ↓reduceIte, Nat.reduceLeDiff, Nat.reduceAdd, Nat.reduceMul, Nat.reduceSub, Nat.reduceLT, Int.reduceAdd, Int.reduceSub, Int.reduceMul, Int.reduceLT, Int.reduceLE, Int.reduceToNat, Int.reduceNeg, reduceIte, reduceCtorEq, SD, SPx, SWx, SCx, Int.reduceEq, F]
     repeat (refine ⟨by decide +kernel, ?_⟩)
     refine hK _ _ ?_
     clear hK K))
  exact hG) : P := h f g
theorem gPASW {F P G : Prop} (f : F) (g : G) (h : F → G → P := by
  intro F hG
  repeat (first
  | with_reducible first | refine W_seq ?_ | refine W_skip ?_ | refine W_label ?_ | refine W_ret ?_ | refine W_exit ?_ | refine W_block ?_ | refine thenI ?_ | refine thenRet ?_ | refine thenExit ?_ | refine blockRet ?_ | refine blockI ?_ | refine blockExit ?_ | refine blockExitNe rfl ?_
  | (with_reducible refine W_region_k ?_
     intro K hK
     simp (maxSteps := 2000000) (disch := omega) only [SA, ofValue, ofCell, bin, intBin, un, idx, Go.Ev.builtin, calleeOf, V.isNilS, V.depthOk, depth1, V.ok1, V.isAgg, V.cells, isConst, Nat.reduceBEq, Nat.reduceEqDiff, ↓reduceIte, Nat.reduceLeDiff, Nat.reduceAdd, Nat.reduceMul, Nat.reduceSub, Nat.reduceLT, Int.reduceAdd, Int.reduceSub, Int.reduceMul, Int.reduceLT, Int.reduceLE, Int.reduceToNat, Int.reduceNeg, reduceIte, reduceCtorEq, SPx, SAx, SSx, appendTo, elemsOf, SWx, F]
     refine hK _ _ ?_
     clear hK K)
  | (with_reducible refine W_draw_k (by decide +kernel) ?_
     intro K hK
     simp (maxSteps := 2000000) (disch := omega) only [SA, ofValue, ofCell, bin, intBin, un, idx, Go.Ev.builtin, calleeOf, V.isNilS, V.depthOk, depth1, V.ok1, V.isAgg, V.cells, isConst, Nat.reduceBEq, Nat.reduceEqDiff, ↓reduceIte, Nat.reduceLeDiff, Nat.reduceAdd, Nat.reduceMul, Nat.reduceSub, Nat.reduceLT, Int.reduceAdd, Int.reduceSub, Int.reduceMul, Int.reduceLT, Int.reduceLE, Int.reduceToNat, Int.reduceNeg, reduceIte, reduceCtorEq, SD, SPx, SAx, SSx, appendTo, elemsOf, SWx, F]
     repeat (refine ⟨by decide +kernel, ?_⟩)
     refine hK _ _ ?_
     clear hK K))
  exact hG) : P := h f g
theorem gPAWC {F P G : Prop} (f : F) (g : G) (h : F → G → P := by
  intro F hG
  repeat (first
  | with_reducible first | refine W_seq ?_ | refine W_skip ?_ | refine W_label ?_ | refine W_ret ?_ | refine W_exit ?_ | refine W_block ?_ | refine thenI ?_ | refine thenRet ?_ | refine thenExit ?_ | refine blockRet ?_ | refine blockI ?_ | refine blockExit ?_ | refine blockExitNe rfl ?_
  | (with_reducible refine W_region_k ?_
     intro K hK
     simp (maxSteps := 2000000) (disch := omega) only [SA, ofValue, ofCell, bin, intBin, un, idx, Go.Ev.builtin, calleeOf, V.isNilS, V.depthOk, depth1, V.ok1, V.isAgg, V.cells, isConst, Nat.reduceBEq, Nat.reduceEqDiff, ↓reduceIte, Nat.reduceLeDiff, Nat.reduceAdd, Nat.reduceMul, Nat.reduceSub, Nat.reduceLT, Int.reduceAdd, Int.reduceSub, Int.reduceMul, Int.reduceLT, Int.reduceLE, Int.reduceToNat, Int.reduceNeg, reduceIte, reduceCtorEq, SPx, SAx, SWx, SCx, Int.reduceEq, F]
     refine hK _ _ ?_
     clear hK K)
  | (with_reducible refine W_draw_k (by decide +kernel) ?_
     intro K hK
     simp (maxSteps := 2000000) (disch := omega) only [SA, ofValue, ofCell, bin, intBin, un, idx, Go.Ev.builtin, calleeOf, V.isNilS, V.depthOk, depth1, V.ok1, V.isAgg, V.cells, isConst, Nat.reduceBEq, Nat.reduceEqDiff, ↓reduceIte, Nat.reduceLeDiff, Nat.reduceAdd, Nat.reduceMul, Nat.reduceSub, Nat.reduceLT, Int.reduceAdd, Int.reduceSub, Int.reduceMul, Int.reduceLT, Int.reduceLE, Int.reduceToNat, Int.reduceNeg, reduceIte, reduceCtorEq, SD, SPx, SAx, SWx, SCx, Int.reduceEq, F]
     repeat (refine ⟨by decide +kernel, ?_⟩)
     refine hK _ _ ?_
     clear hK K))
  exact hG) : P := h f g
theorem gPASC {F P G : Prop} (f : F) (g : G) (h : F → G → P := by
  intro F hG
  repeat (first
  | with_reducible first | refine W_seq ?_ | refine W_skip ?_ | refine W_label ?_ | refine W_ret ?_ | refine W_exit ?_ | refine W_block ?_ | refine thenI ?_ | refine thenRet ?_ | refine thenExit ?_ | refine blockRet ?_ | refine blockI ?_ | refine blockExit ?_ | refine blockExitNe rfl ?_
  | (with_reducible refine W_region_k ?_
     intro K hK
     simp (maxSteps := 2000000) (disch := omega) only [SA, ofValue, ofCell, bin, intBin, un, idx, Go.Ev.builtin, calleeOf, V.isNilS, V.depthOk, depth1, V.ok1, V.isAgg, V.cells, isConst, Nat.reduceBEq, Nat.reduceEqDiff, ↓reduceIte, Nat.reduceLeDiff, Nat.reduceAdd, Nat.reduceMul, Nat.reduceSub, Nat.reduceLT, Int.reduceAdd, Int.reduceSub, Int.reduceMul, Int.reduceLT, Int.reduceLE, Int.reduceToNat, Int.reduceNeg, reduceIte, reduceCtorEq, SPx, SAx, SSx, appendTo, elemsOf, SCx, Int.reduceEq, F]
     refine hK _ _ ?_
     clear hK K)
  | (with_reducible refine W_draw_k (by decide +kernel) ?_
     intro K hK
     simp (maxSteps := 2000000) (disch := omega) only [SA, ofValue, ofCell, bin, intBin, un, idx, Go.Ev.builtin, calleeOf, V.isNilS, V.depthOk, depth1, V.ok1, V.isAgg, V.cells, isConst, Nat.reduceBEq, Nat.reduceEqDiff, ↓reduceIte, Nat.reduceLeDiff, Nat.reduceAdd, Nat.reduceMul, Nat.reduceSub, Nat.reduceLT, Int.reduceAdd, Int.reduceSub, Int.reduceMul, Int.reduceLT, Int.reduceLE, Int.reduceToNat, Int.reduceNeg, reduceIte, reduceCtorEq, SD, SPx, SAx, SSx, appendTo, elemsOf, SCx, Int.reduceEq, F]
     repeat (refine ⟨by decide +kernel, ?_⟩)
     refine hK _ _ ?_
     clear hK K))
  exact hG) : P := h f g
theorem gPSWC {F P G : Prop} (f : F) (g : G) (h : F → G → P := by
  intro F hG
  repeat (first
  | with_reducible first | refine W_seq ?_ | refine W_skip ?_ | refine W_label ?_ | refine W_ret ?_ | refine W_exit ?_ | refine W_block ?_ | refine thenI ?_ | refine thenRet ?_ | refine thenExit ?_ | refine blockRet ?_ | refine blockI ?_ | refine blockExit ?_ | refine blockExitNe rfl ?_
  | (with_reducible refine W_region_k ?_
     intro K hK
     simp (maxSteps := 2000000) (disch := omega) only [SA, ofValue, ofCell, bin, intBin, un, idx, Go.Ev.builtin, calleeOf, V.isNilS, V.depthOk, depth1, V.ok1, V.isAgg, V.cells, isConst, Nat.reduceBEq, Nat.reduceEqDiff, ↓reduceIte, Nat.reduceLeDiff, Nat.reduceAdd, Nat.reduceMul, Nat.reduceSub, Nat.reduceLT, Int.reduceAdd, Int.reduceSub, Int.reduceMul, Int.reduceLT, Int.reduceLE, Int.reduceToNat, Int.reduceNeg, reduceIte, reduceCtorEq, SPx, SSx, appendTo, elemsOf, SWx, SCx, Int.reduceEq, F]
     refine hK _ _ ?_
     clear hK K)
  | (with_reducible refine W_draw_k (by decide +kernel) ?_
     intro K hK
     simp (maxSteps := 2000000) (disch := omega) only [SA, ofValue, ofCell, bin, intBin, un, idx, Go.Ev.builtin, calleeOf, V.isNilS, V.depthOk, depth1, V.ok1, V.isAgg, V.cells, isConst, Nat.reduceBEq, Nat.reduceEqDiff, ↓reduceIte, Nat.reduceLeDiff, Nat.reduceAdd, Nat.reduceMul, Nat.reduceSub, Nat.reduceLT, Int.reduceAdd, Int.reduceSub, Int.reduceMul, Int.reduceLT, Int.reduceLE, Int.reduceToNat, Int.reduceNeg, reduceIte, reduceCtorEq, SD, SPx, SSx, appendTo, elemsOf, SWx, SCx, Int.reduceEq, F]
     repeat (refine ⟨by decide +kernel, ?_⟩)
     refine hK _ _ ?_
     clear hK K))
  exact hG) : P := h f g
theorem gPASWC {F P G : Prop} (f : F) (g : G) (h : F → G → P := by
  intro F hG
  repeat (first
  | with_reducible first | refine W_seq ?_ | refine W_skip ?_ | refine W_label ?_ | refine W_ret ?_ | refine W_exit ?_ | refine W_block ?_ | refine thenI ?_ | refine thenRet ?_ | refine thenExit ?_ | refine blockRet ?_ | refine blockI ?_ | refine blockExit ?_ | refine blockExitNe rfl ?_
  | (with_reducible refine W_region_k ?_
     intro K hK
     simp (maxSteps := 2000000) (disch := omega) only [SA, ofValue, ofCell, bin, intBin, un, idx, Go.Ev.builtin, calleeOf, V.isNilS, V.depthOk, depth1, V.ok1, V.isAgg, V.cells, isConst, Nat.reduceBEq, Nat.reduceEqDiff, ↓reduceIte, Nat.reduceLeDiff, Nat.reduceAdd, Nat.reduceMul, Nat.reduceSub, Nat.reduceLT, Int.reduceAdd, Int.reduceSub, Int.reduceMul, Int.reduceLT, Int.reduceLE, Int.reduceToNat, Int.reduceNeg, reduceIte, reduceCtorEq, SPx, SAx, SSx, appendTo, elemsOf, SWx, SCx, Int.reduceEq, F]
     refine hK _ _ ?_
     clear hK K)
  | (with_reducible refine W_draw_k (by decide +kernel) ?_
     intro K hK
     simp (maxSteps := 2000000) (disch := omega) only [SA, ofValue, ofCell, bin, intBin, un, idx, Go.Ev.builtin, calleeOf, V.isNilS, V.depthOk, depth1, V.ok1, V.isAgg, V.cells, isConst, Nat.reduceBEq, Nat.reduceEqDiff, ↓reduceIte, Nat.reduceLeDiff, Nat.reduceAdd, Nat.reduceMul, Nat.reduceSub, Nat.reduceLT, Int.reduceAdd, Int.reduceSub, Int.reduceMul, Int.reduceLT, Int.reduceLE, Int.reduceToNat, Int.reduceNeg, reduceIte, reduceCtorEq, SD, SPx, SAx, SSx, appendTo, elemsOf, SWx, SCx, Int.reduceEq, F]
     repeat (refine ⟨by decide +kernel, ?_⟩)
     refine hK _ _ ?_
     clear hK K))
  exact hG) : P := h f g
theorem cnd {X : Env} {Q : Out → St → Prop} {st : St} {c : Operand} {a b : Code} {t : Bool} (h1 : t = true → W X a Q st) (h2 : t = false → W X b Q st) (hc : opd X st.t c = .bool t := by simp only [SO, ofValue, ofCell, Nat.reduceBEq, Nat.reduceEqDiff, ↓reduceIte]; rfl) : W X (.cond c a b) Q st := W_cond2 hc h1 h2
theorem rP {F G : Prop} {fn : Func} {st : St} {vs : List V} {v : V} (hd : st.dfs = []) (f : F) (g : G) (h1 : F → resVars X st.m st.t fn.results.toList = some vs := by
  intro F
  simp (maxSteps := 2000000) (disch := omega) only [resVars, resVar, SA, ofValue, ofCell, bin, intBin, un, idx, Go.Ev.builtin, calleeOf, V.isNilS, V.depthOk, depth1, V.ok1, V.isAgg, V.cells, isConst, Nat.reduceBEq, Nat.reduceEqDiff, ↓reduceIte, Nat.reduceLeDiff, Nat.reduceAdd, Nat.reduceMul, Nat.reduceSub, Nat.reduceLT, Int.reduceAdd, Int.reduceSub, Int.reduceMul, Int.reduceLT, Int.reduceLE, Int.reduceToNat, Int.reduceNeg, reduceIte, reduceCtorEq, SPx, F]
  rfl) (h2 : F → G → mv (X.own fn) st.m (resOf vs) = some v := by
  intro F hG
  first
  | (refine Function.const True ?_ hG
     simp (maxSteps := 2000000) (disch := omega) only [SA, ofValue, ofCell, bin, intBin, un, idx, Go.Ev.builtin, calleeOf, V.isNilS, V.depthOk, depth1, V.ok1, V.isAgg, V.cells, isConst, Nat.reduceBEq, Nat.reduceEqDiff, ↓reduceIte, Nat.reduceLeDiff, Nat.reduceAdd, Nat.reduceMul, Nat.reduceSub, Nat.reduceLT, Int.reduceAdd, Int.reduceSub, Int.reduceMul, Int.reduceLT, Int.reduceLE, Int.reduceToNat, Int.reduceNeg, reduceIte, reduceCtorEq, SPx, true_and, and_true, Nat.zero_add, Nat.le_refl, if_true, ↓reduceIte, resOf, X_own, mv_int, mv_bool, mv_str, mv_sl, mv_nilS, mv_tup, mv2s_nil, mv2s_cons, mv2_int, mv2_bool, mv2_str, mv2_sl, mv2_nilS, Option.map_some, vi, vn, F]
     done)
  | (simp (maxSteps := 2000000) (disch := omega) only [SA, ofValue, ofCell, bin, intBin, un, idx, Go.Ev.builtin, calleeOf, V.isNilS, V.depthOk, depth1, V.ok1, V.isAgg, V.cells, isConst, Nat.reduceBEq, Nat.reduceEqDiff, ↓reduceIte, Nat.reduceLeDiff, Nat.reduceAdd, Nat.reduceMul, Nat.reduceSub, Nat.reduceLT, Int.reduceAdd, Int.reduceSub, Int.reduceMul, Int.reduceLT, Int.reduceLE, Int.reduceToNat, Int.reduceNeg, reduceIte, reduceCtorEq, SPx, true_and, and_true, Nat.zero_add, Nat.le_refl, if_true, ↓reduceIte, resOf, X_own, mv_int, mv_bool, mv_str, mv_sl, mv_nilS, mv_tup, mv2s_nil, mv2s_cons, mv2_int, mv2_bool, mv2_str, mv2_sl, mv2_nilS, Option.map_some, vi, vn, F]
     exact hG)) : endQ X fn (fun r => r = .ret v) .ret st := end_ret hd (h1 f) (h2 f g)
theorem rPS {F G : Prop} {fn : Func} {st : St} {vs : List V} {v : V} (hd : st.dfs = []) (f : F) (g : G) (h1 : F → resVars X st.m st.t fn.results.toList = some vs := by
  intro F
  simp (maxSteps := 2000000) (disch := omega) only [resVars, resVar, SA, ofValue, ofCell, bin, intBin, un, idx, Go.Ev.builtin, calleeOf, V.isNilS, V.depthOk, depth1, V.ok1, V.isAgg, V.cells, isConst, Nat.reduceBEq, Nat.reduceEqDiff, ↓reduceIte, Nat.reduceLeDiff, Nat.reduceAdd, Nat.reduceMul, Nat.reduceSub, Nat.reduceLT, Int.reduceAdd, Int.reduceSub, Int.reduceMul, Int.reduceLT, Int.reduceLE, Int.reduceToNat, Int.reduceNeg, reduceIte, reduceCtorEq, SPx, SSx, appendTo, elemsOf, F]
  rfl) (h2 : F → G → mv (X.own fn) st.m (resOf vs) = some v := by
  intro F hG
  first
  | (refine Function.const True ?_ hG
     simp (maxSteps := 2000000) (disch := omega) only [SA, ofValue, ofCell, bin, intBin, un, idx, Go.Ev.builtin, calleeOf, V.isNilS, V.depthOk, depth1, V.ok1, V.isAgg, V.cells, isConst, Nat.reduceBEq, Nat.reduceEqDiff, ↓reduceIte, Nat.reduceLeDiff, Nat.reduceAdd, Nat.reduceMul, Nat.reduceSub, Nat.reduceLT, Int.reduceAdd, Int.reduceSub, Int.reduceMul, Int.reduceLT, Int.reduceLE, Int.reduceToNat, Int.reduceNeg, reduceIte, reduceCtorEq, SPx, SSx, appendTo, elemsOf, true_and, and_true, Nat.zero_add, Nat.le_refl, if_true, ↓reduceIte, resOf, X_own, mv_int, mv_bool, mv_str, mv_sl, mv_nilS, mv_tup, mv2s_nil, mv2s_cons, mv2_int, mv2_bool, mv2_str, mv2_sl, mv2_nilS, Option.map_some, vi, vn, F]
     done)
  | (simp (maxSteps := 2000000) (disch := omega) only [SA, ofValue, ofCell, bin, intBin, un, idx, Go.Ev.builtin, calleeOf, V.isNilS, V.depthOk, depth1, V.ok1, V.isAgg, V.cells, isConst, Nat.reduceBEq, Nat.reduceEqDiff, ↓reduceIte, Nat.reduceLeDiff, Nat.reduceAdd, Nat.reduceMul, Nat.reduceSub, Nat.reduceLT, Int.reduceAdd, Int.reduceSub, Int.reduceMul, Int.reduceLT, Int.reduceLE, Int.reduceToNat, Int.reduceNeg, reduceIte, reduceCtorEq, SPx, SSx, appendTo, elemsOf, true_and, and_true, Nat.zero_add, Nat.le_refl, if_true, ↓reduceIte, resOf, X_own, mv_int, mv_bool, mv_str, mv_sl, mv_nilS, mv_tup, mv2s_nil, mv2s_cons, mv2_int, mv2_bool, mv2_str, mv2_sl, mv2_nilS, Option.map_some, vi, vn, F]
     exact hG)) : endQ X fn (fun r => r = .ret v) .ret st := end_ret hd (h1 f) (h2 f g)
theorem rPA {F G : Prop} {fn : Func} {st : St} {vs : List V} {v : V} (hd : st.dfs = []) (f : F) (g : G) (h1 : F → resVars X st.m st.t fn.results.toList = some vs := by
  intro F
  simp (maxSteps := 2000000) (disch := omega) only [resVars, resVar, SA, ofValue, ofCell, bin, intBin, un, idx, Go.Ev.builtin, calleeOf, V.isNilS, V.depthOk, depth1, V.ok1, V.isAgg, V.cells, isConst, Nat.reduceBEq, Nat.reduceEqDiff, ↓reduceIte, Nat.reduceLeDiff, Nat.reduceAdd, Nat.reduceMul, Nat.reduceSub, Nat.reduceLT, Int.reduceAdd, Int.reduceSub, Int.reduceMul, Int.reduceLT, Int.reduceLE, Int.reduceToNat, Int.reduceNeg, reduceIte, reduceCtorEq, SPx, SAx, F]
  rfl) (h2 : F → G → mv (X.own fn) st.m (resOf vs) = some v := by
  intro F hG
  first
  | (refine Function.const True ?_ hG
     simp (maxSteps := 2000000) (disch := omega) only [SA, ofValue, ofCell, bin, intBin, un, idx, Go.Ev.builtin, calleeOf, V.isNilS, V.depthOk, depth1, V.ok1, V.isAgg, V.cells, isConst, Nat.reduceBEq, Nat.reduceEqDiff, ↓reduceIte, Nat.reduceLeDiff, Nat.reduceAdd, Nat.reduceMul, Nat.reduceSub, Nat.reduceLT, Int.reduceAdd, Int.reduceSub, Int.reduceMul, Int.reduceLT, Int.reduceLE, Int.reduceToNat, Int.reduceNeg, reduceIte, reduceCtorEq, SPx, SAx, true_and, and_true, Nat.zero_add, Nat.le_refl, if_true, ↓reduceIte, resOf, X_own, mv_int, mv_bool, mv_str, mv_sl, mv_nilS, mv_tup, mv2s_nil, mv2s_cons, mv2_int, mv2_bool, mv2_str, mv2_sl, mv2_nilS, Option.map_some, vi, vn, F]
     done)
  | (simp (maxSteps := 2000000) (disch := omega) only [SA, ofValue, ofCell, bin, intBin, un, idx, Go.Ev.builtin, calleeOf, V.isNilS, V.depthOk, depth1, V.ok1, V.isAgg, V.cells, isConst, Nat.reduceBEq, Nat.reduceEqDiff, ↓reduceIte, Nat.reduceLeDiff, Nat.reduceAdd, Nat.reduceMul, Nat.reduceSub, Nat.reduceLT, Int.reduceAdd, Int.reduceSub, Int.reduceMul, Int.reduceLT, Int.reduceLE, Int.reduceToNat, Int.reduceNeg, reduceIte, reduceCtorEq, SPx, SAx, true_and, and_true, Nat.zero_add, Nat.le_refl, if_true, ↓reduceIte, resOf, X_own, mv_int, mv_bool, mv_str, mv_sl, mv_nilS, mv_tup, mv2s_nil, mv2s_cons, mv2_int, mv2_bool, mv2_str, mv2_sl, mv2_nilS, Option.map_some, vi, vn, F]
     exact hG)) : endQ X fn (fun r => r = .ret v) .ret st := end_ret hd (h1 f) (h2 f g)
theorem rPAS {F G : Prop} {fn : Func} {st : St} {vs : List V} {v : V} (hd : st.dfs = []) (f : F) (g : G) (h1 : F → resVars X st.m st.t fn.results.toList = some vs := by
  intro F
  simp (maxSteps := 2000000) (disch := omega) only [resVars, resVar, SA, ofValue, ofCell, bin, intBin, un, idx, Go.Ev.builtin, calleeOf, V.isNilS, V.depthOk, depth1, V.ok1, V.isAgg, V.cells, isConst, Nat.reduceBEq, Nat.reduceEqDiff, ↓reduceIte, Nat.reduceLeDiff, Nat.reduceAdd, Nat.reduceMul, Nat.reduceSub, Nat.reduceLT, Int.reduceAdd, Int.reduceSub, Int.reduceMul, Int.reduceLT, Int.reduceLE, Int.reduceToNat, Int.reduceNeg, reduceIte, reduceCtorEq, SPx, SAx, SSx, appendTo, elemsOf, F]
  rfl) (h2 : F → G → mv (X.own fn) st.m (resOf vs) = some v := by
  intro F hG
  first
  | (refine Function.const True ?_ hG
     simp (maxSteps := 2000000) (disch := omega) only [SA, ofValue, ofCell, bin, intBin, un, idx, Go.Ev.builtin, calleeOf, V.isNilS, V.depthOk, depth1, V.ok1, V.isAgg, V.cells, isConst, Nat.reduceBEq, Nat.reduceEqDiff, ↓reduceIte, Nat.reduceLeDiff, Nat.reduceAdd, Nat.reduceMul, Nat.reduceSub, Nat.reduceLT, Int.reduceAdd, Int.reduceSub, Int.reduceMul, Int.reduceLT, Int.reduceLE, Int.reduceToNat, Int.reduceNeg, reduceIte, reduceCtorEq, SPx, SAx, SSx, appendTo, elemsOf, true_and, and_true, Nat.zero_add, Nat.le_refl, if_true, ↓reduceIte, resOf, X_own, mv_int, mv_bool, mv_str, mv_sl, mv_nilS, mv_tup, mv2s_nil, mv2s_cons, mv2_int, mv2_bool, mv2_str, mv2_sl, mv2_nilS, Option.map_some, vi, vn, F]
     done)
  | (simp (maxSteps := 2000000) (disch := omega) only [SA, ofValue, ofCell, bin, intBin, un, idx, Go.Ev.builtin, calleeOf, V.isNilS, V.depthOk, depth1, V.ok1, V.isAgg, V.cells, isConst, Nat.reduceBEq, Nat.reduceEqDiff, ↓reduceIte, Nat.reduceLeDiff, Nat.reduceAdd, Nat.reduceMul, Nat.reduceSub, Nat.reduceLT, Int.reduceAdd, Int.reduceSub, Int.reduceMul, Int.reduceLT, Int.reduceLE, Int.reduceToNat, Int.reduceNeg, reduceIte, reduceCtorEq, SPx, SAx, SSx, appendTo, elemsOf, true_and, and_true, Nat.zero_add, Nat.le_refl, if_true, ↓reduceIte, resOf, X_own, mv_int, mv_bool, mv_str, mv_sl, mv_nilS, mv_tup, mv2s_nil, mv2s_cons, mv2_int, mv2_bool, mv2_str, mv2_sl, mv2_nilS, Option.map_some, vi, vn, F]
     exact hG)) : endQ X fn (fun r => r = .ret v) .ret st := end_ret hd (h1 f) (h2 f g)
theorem rPW {F G : Prop} {fn : Func} {st : St} {vs : List V} {v : V} (hd : st.dfs = []) (f : F) (g : G) (h1 : F → resVars X st.m st.t fn.results.toList = some vs := by
  intro F
  simp (maxSteps := 2000000) (disch := omega) only [resVars, resVar, SA, ofValue, ofCell, bin, intBin, un, idx, Go.Ev.builtin, calleeOf, V.isNilS, V.depthOk, depth1, V.ok1, V.isAgg, V.cells, isConst, Nat.reduceBEq, Nat.reduceEqDiff, ↓reduceIte, Nat.reduceLeDiff, Nat.reduceAdd, Nat.reduceMul, Nat.reduceSub, Nat.reduceLT, Int.reduceAdd, Int.reduceSub, Int.reduceMul, Int.reduceLT, Int.reduceLE, Int.reduceToNat, Int.reduceNeg, reduceIte, reduceCtorEq, SPx, SWx, F]
  rfl) (h2 : F → G → mv (X.own fn) st.m (resOf vs) = some v := by
  intro F hG
  first
  | (refine Function.const True ?_ hG
     simp (maxSteps := 2000000) (disch := omega) only [SA, ofValue, ofCell, bin, intBin, un, idx, Go.Ev.builtin, calleeOf, V.isNilS, V.depthOk, depth1, V.ok1, V.isAgg, V.cells, isConst, Nat.reduceBEq, Nat.reduceEqDiff, ↓reduceIte, Nat.reduceLeDiff, Nat.reduceAdd, Nat.reduceMul, Nat.reduceSub, Nat.reduceLT, Int.reduceAdd, Int.reduceSub, Int.reduceMul, Int.reduceLT, Int.reduceLE, Int.reduceToNat, Int.reduceNeg, reduceIte, reduceCtorEq, SPx, SWx, true_and, and_true, Nat.zero_add, Nat.le_refl, if_true, ↓reduceIte, resOf, X_own, mv_int, mv_bool, mv_str, mv_sl, mv_nilS, mv_tup, mv2s_nil, mv2s_cons, mv2_int, mv2_bool, mv2_str, mv2_sl, mv2_nilS, Option.map_some, vi, vn, F]
     done)
  | (simp (maxSteps := 2000000) (disch := omega) only [SA, ofValue, ofCell, bin, intBin, un, idx, Go.Ev.builtin, calleeOf, V.isNilS, V.depthOk, depth1, V.ok1, V.isAgg, V.cells, isConst, Nat.reduceBEq, Nat.reduceEqDiff, ↓reduceIte, Nat.reduceLeDiff, Nat.reduceAdd, Nat.reduceMul, Nat.reduceSub, Nat.reduceLT, Int.reduceAdd, Int.reduceSub, Int.reduceMul, Int.reduceLT, Int.reduceLE, Int.reduceToNat, Int.reduceNeg, reduceIte, reduceCtorEq, SPx, SWx, true_and, and_true, Nat.zero_add, Nat.le_refl, if_true, ↓reduceIte, resOf, X_own, mv_int, mv_bool, mv_str, mv_sl, mv_nilS, mv_tup, mv2s_nil, mv2s_cons, mv2_int, mv2_bool, mv2_str, mv2_sl, mv2_nilS, Option.map_some, vi, vn, F]
     exact hG)) : endQ X fn (fun r => r = .ret v) .ret st := end_ret hd (h1 f) (h2 f g)
theorem rPAW {F G : Prop} {fn : Func} {st : St} {vs : List V} {v : V} (hd : st.dfs = []) (f : F) (g : G) (h1 : F → resVars X st.m st.t fn.results.toList = some vs := by
  intro F
  simp (maxSteps := 2000000) (disch := omega) only [resVars, resVar, SA, ofValue, ofCell, bin, intBin, un, idx, Go.Ev.builtin, calleeOf, V.isNilS, V.depthOk, depth1, V.ok1, V.isAgg, V.cells, isConst, Nat.reduceBEq, Nat.reduceEqDiff, ↓reduceIte, Nat.reduceLeDiff, Nat.reduceAdd, Nat.reduceMul, Nat.reduceSub, Nat.reduceLT, Int.reduceAdd, Int.reduceSub, Int.reduceMul, Int.reduceLT, Int.reduceLE, Int.reduceToNat, Int.reduceNeg, reduceIte, reduceCtorEq, SPx, SAx, SWx, F]
  rfl) (h2 : F → G → mv (X.own fn) st.m (resOf vs) = some v := by
  intro F hG
  first
  | (refine Function.const True ?_ hG
     simp (maxSteps := 2000000) (disch := omega) only [SA, ofValue, ofCell, bin, intBin, un, idx, Go.Ev.builtin, calleeOf, V.isNilS, V.depthOk, depth1, V.ok1, V.isAgg, V.cells, isConst, Nat.reduceBEq, Nat.reduceEqDiff, ↓reduceIte, Nat.reduceLeDiff, Nat.reduceAdd, Nat.reduceMul, Nat.reduceSub, Nat.reduceLT, Int.reduceAdd, Int.reduceSub, Int.reduceMul, Int.reduceLT, Int.reduceLE, Int.reduceToNat, Int.reduceNeg, reduceIte, reduceCtorEq, SPx, SAx, SWx, true_and, and_true, Nat.zero_add, Nat.le_refl, if_true, ↓reduceIte, resOf, X_own, mv_int, mv_bool, mv_str, mv_sl, mv_nilS, mv_tup, mv2s_nil, mv2s_cons, mv2_int, mv2_bool, mv2_str, mv2_sl, mv2_nilS, Option.map_some, vi, vn, F]
     done)
  | (simp (maxSteps := 2000000) (disch := omega) only [SA, ofValue, ofCell, bin, intBin, un, idx, Go.Ev.builtin, calleeOf, V.isNilS, V.depthOk, depth1, V.ok1, V.isAgg, V.cells, isConst, Nat.reduceBEq, Nat.reduceEqDiff, ↓reduceIte, Nat.reduceLeDiff, Nat.reduceAdd, Nat.reduceMul, Nat.reduceSub, Nat.reduceLT, Int.reduceAdd, Int.reduceSub, Int.reduceMul, Int.reduceLT, Int.reduceLE, Int.reduceToNat, Int.reduceNeg, reduceIte, reduceCtorEq, SPx, SAx, SWx, true_and, and_true, Nat.zero_add, Nat.le_refl, if_true, ↓reduceIte, resOf, X_own, mv_int, mv_bool, mv_str, mv_sl, mv_nilS, mv_tup, mv2s_nil, mv2s_cons, mv2_int, mv2_bool, mv2_str, mv2_sl, mv2_nilS, Option.map_some, vi, vn, F]
     exact hG)) : endQ X fn (fun r => r = .ret v) .ret st := end_ret hd (h1 f) (h2 f g)
theorem rPASW {F G : Prop} {fn : Func} {st : St} {vs : List V} {v : V} (hd : st.dfs = []) (f : F) (g : G) (h1 : F → resVars X st.m st.t fn.results.toList = some vs := by
  intro F
  simp (maxSteps := 2000000) (disch := omega) only [resVars, resVar, SA, ofValue, ofCell, bin, intBin, un, idx, Go.Ev.builtin, calleeOf, V.isNilS, V.depthOk, depth1, V.ok1, V.isAgg, V.cells, isConst, Nat.reduceBEq, Nat.reduceEqDiff, ↓reduceIte, Nat.reduceLeDiff, Nat.reduceAdd, Nat.reduceMul, Nat.reduceSub, Nat.reduceLT, Int.reduceAdd, Int.reduceSub, Int.reduceMul, Int.reduceLT, Int.reduceLE, Int.reduceToNat, Int.reduceNeg, reduceIte, reduceCtorEq, SPx, SAx, SSx, appendTo, elemsOf, SWx, F]
  rfl) (h2 : F → G → mv (X.own fn) st.m (resOf vs) = some v := by
  intro F hG
  first
  | (refine Function.const True ?_ hG
     simp (maxSteps := 2000000) (disch := omega) only [SA, ofValue, ofCell, bin, intBin, un, idx, Go.Ev.builtin, calleeOf, V.isNilS, V.depthOk, depth1, V.ok1, V.isAgg, V.cells, isConst, Nat.reduceBEq, Nat.reduceEqDiff, ↓reduceIte, Nat.reduceLeDiff, Nat.reduceAdd, Nat.reduceMul, Nat.reduceSub, Nat.reduceLT, Int.reduceAdd, Int.reduceSub, Int.reduceMul, Int.reduceLT, Int.reduceLE, Int.reduceToNat, Int.reduceNeg, reduceIte, reduceCtorEq, SPx, SAx, SSx, appendTo, elemsOf, SWx, true_and, and_true, Nat.zero_add, Nat.le_refl, if_true, ↓reduceIte, resOf, X_own, mv_int, mv_bool, mv_str, mv_sl, mv_nilS, mv_tup, mv2s_nil, mv2s_cons, mv2_int, mv2_bool, mv2_str, mv2_sl, mv2_nilS, Option.map_some, vi, vn, F]
     done)
  | (simp (maxSteps := 2000000) (disch := omega) only [SA, ofValue, ofCell, bin, intBin, un, idx, Go.Ev.builtin, calleeOf, V.isNilS, V.depthOk, depth1, V.ok1, V.isAgg, V.cells, isConst, Nat.reduceBEq, Nat.reduceEqDiff, ↓reduceIte, Nat.reduceLeDiff, Nat.reduceAdd, Nat.reduceMul, Nat.reduceSub, Nat.reduceLT, Int.reduceAdd, Int.reduceSub, Int.reduceMul, Int.reduceLT, Int.reduceLE, Int.reduceToNat, Int.reduceNeg, reduceIte, reduceCtorEq, SPx, SAx, SSx, appendTo, elemsOf, SWx, true_and, and_true, Nat.zero_add, Nat.le_refl, if_true, ↓reduceIte, resOf, X_own, mv_int, mv_bool, mv_str, mv_sl, mv_nilS, mv_tup, mv2s_nil, mv2s_cons, mv2_int, mv2_bool, mv2_str, mv2_sl, mv2_nilS, Option.map_some, vi, vn, F]
     exact hG)) : endQ X fn (fun r => r = .ret v) .ret st := end_ret hd (h1 f) (h2 f g)
theorem rPSW {F G : Prop} {fn : Func} {st : St} {vs : List V} {v : V} (hd : st.dfs = []) (f : F) (g : G) (h1 : F → resVars X st.m st.t fn.results.toList = some vs := by
  intro F
  simp (maxSteps := 2000000) (disch := omega) only [resVars, resVar, SA, ofValue, ofCell, bin, intBin, un, idx, Go.Ev.builtin, calleeOf, V.isNilS, V.depthOk, depth1, V.ok1, V.isAgg, V.cells, isConst, Nat.reduceBEq, Nat.reduceEqDiff, ↓reduceIte, Nat.reduceLeDiff, Nat.reduceAdd, Nat.reduceMul, Nat.reduceSub, Nat.reduceLT, Int.reduceAdd, Int.reduceSub, Int.reduceMul, Int.reduceLT, Int.reduceLE, Int.reduceToNat, Int.reduceNeg, reduceIte, reduceCtorEq, SPx, SSx, appendTo, elemsOf, SWx, F]
  rfl) (h2 : F → G → mv (X.own fn) st.m (resOf vs) = some v := by
  intro F hG
  first
  | (refine Function.const True ?_ hG
     simp (maxSteps := 2000000) (disch := omega) only [SA, ofValue, ofCell, bin, intBin, un, idx, Go.Ev.builtin, calleeOf, V.isNilS, V.depthOk, depth1, V.ok1, V.isAgg, V.cells, isConst, Nat.reduceBEq, Nat.reduceEqDiff, ↓reduceIte, Nat.reduceLeDiff, Nat.reduceAdd, Nat.reduceMul, Nat.reduceSub, Nat.reduceLT, Int.reduceAdd, Int.reduceSub, Int.reduceMul, Int.reduceLT, Int.reduceLE, Int.reduceToNat, Int.reduceNeg, reduceIte, reduceCtorEq, SPx, SSx, appendTo, elemsOf, SWx, true_and, and_true, Nat.zero_add, Nat.le_refl, if_true, ↓reduceIte, resOf, X_own, mv_int, mv_bool, mv_str, mv_sl, mv_nilS, mv_tup, mv2s_nil, mv2s_cons, mv2_int, mv2_bool, mv2_str, mv2_sl, mv2_nilS, Option.map_some, vi, vn, F]
     done)
  | (simp (maxSteps := 2000000) (disch := omega) only [SA, ofValue, ofCell, bin, intBin, un, idx, Go.Ev.builtin, calleeOf, V.isNilS, V.depthOk, depth1, V.ok1, V.isAgg, V.cells, isConst, Nat.reduceBEq, Nat.reduceEqDiff, ↓reduceIte, Nat.reduceLeDiff, Nat.reduceAdd, Nat.reduceMul, Nat.reduceSub, Nat.reduceLT, Int.reduceAdd, Int.reduceSub, Int.reduceMul, Int.reduceLT, Int.reduceLE, Int.reduceToNat, Int.reduceNeg, reduceIte, reduceCtorEq, SPx, SSx, appendTo, elemsOf, SWx, true_and, and_true, Nat.zero_add, Nat.le_refl, if_true, ↓reduceIte, resOf, X_own, mv_int, mv_bool, mv_str, mv_sl, mv_nilS, mv_tup, mv2s_nil, mv2s_cons, mv2_int, mv2_bool, mv2_str, mv2_sl, mv2_nilS, Option.map_some, vi, vn, F]
     exact hG)) : endQ X fn (fun r => r = .ret v) .ret st := end_ret hd (h1 f) (h2 f g)
theorem f0 {F P G : Prop} (f : F) (g : G) (h : F → G → P := by
  intro F hG
  first
  | (refine Function.const True ?_ hG
     simp (maxSteps := 2000000) (disch := omega) only [SO, ofValue, ofCell, Nat.reduceBEq, Nat.reduceEqDiff, ↓reduceIte, and_self, and_true, true_and, Mem.newRef_eq, Mem.gen_nil, Mem.gen_new, Mem.gen_set, Mem.row_new, Mem.row_setW, Mem.new_out, Mem.set_out, List.length_nil, List.length_cons, Nat.zero_le, Nat.le_refl, Nat.reduceLeDiff, Nat.reduceAdd, Nat.zero_add, F]
     done)
  | (simp (maxSteps := 2000000) (disch := omega) only [SO, ofValue, ofCell, Nat.reduceBEq, Nat.reduceEqDiff, ↓reduceIte, and_self, and_true, true_and, Mem.newRef_eq, Mem.gen_nil, Mem.gen_new, Mem.gen_set, Mem.row_new, Mem.row_setW, Mem.new_out, Mem.set_out, List.length_nil, List.length_cons, Nat.zero_le, Nat.le_refl, Nat.reduceLeDiff, Nat.reduceAdd, Nat.zero_add, F]
     exact hG)) : P := h f g
theorem fW {F P G : Prop} (f : F) (g : G) (h : F → G → P := by
  intro F hG
  first
  | (refine Function.const True ?_ hG
     simp (maxSteps := 2000000) (disch := omega) only [SO, ofValue, ofCell, Nat.reduceBEq, Nat.reduceEqDiff, ↓reduceIte, SWx, and_self, and_true, true_and, Mem.newRef_eq, Mem.gen_nil, Mem.gen_new, Mem.gen_set, Mem.row_new, Mem.row_setW, Mem.new_out, Mem.set_out, List.length_nil, List.length_cons, Nat.zero_le, Nat.le_refl, Nat.reduceLeDiff, Nat.reduceAdd, Nat.zero_add, F]
     done)
  | (simp (maxSteps := 2000000) (disch := omega) only [SO, ofValue, ofCell, Nat.reduceBEq, Nat.reduceEqDiff, ↓reduceIte, SWx, and_self, and_true, true_and, Mem.newRef_eq, Mem.gen_nil, Mem.gen_new, Mem.gen_set, Mem.row_new, Mem.row_setW, Mem.new_out, Mem.set_out, List.length_nil, List.length_cons, Nat.zero_le, Nat.le_refl, Nat.reduceLeDiff, Nat.reduceAdd, Nat.zero_add, F]
     exact hG)) : P := h f g
theorem fS {F P G : Prop} (f : F) (g : G) (h : F → G → P := by
  intro F hG
  first
  | (refine Function.const True ?_ hG
     simp (maxSteps := 2000000) (disch := omega) only [SO, ofValue, ofCell, Nat.reduceBEq, Nat.reduceEqDiff, ↓reduceIte, SSx, appendTo, elemsOf, and_self, and_true, true_and, Mem.newRef_eq, Mem.gen_nil, Mem.gen_new, Mem.gen_set, Mem.row_new, Mem.row_setW, Mem.new_out, Mem.set_out, List.length_nil, List.length_cons, Nat.zero_le, Nat.le_refl, Nat.reduceLeDiff, Nat.reduceAdd, Nat.zero_add, F]
     done)
  | (simp (maxSteps := 2000000) (disch := omega) only [SO, ofValue, ofCell, Nat.reduceBEq, Nat.reduceEqDiff, ↓reduceIte, SSx, appendTo, elemsOf, and_self, and_true, true_and, Mem.newRef_eq, Mem.gen_nil, Mem.gen_new, Mem.gen_set, Mem.row_new, Mem.row_setW, Mem.new_out, Mem.set_out, List.length_nil, List.length_cons, Nat.zero_le, Nat.le_refl, Nat.reduceLeDiff, Nat.reduceAdd, Nat.zero_add, F]
     exact hG)) : P := h f g
theorem fSW {F P G : Prop} (f : F) (g : G) (h : F → G → P := by
  intro F hG
  first
  | (refine Function.const True ?_ hG
     simp (maxSteps := 2000000) (disch := omega) only [SO, ofValue, ofCell, Nat.reduceBEq, Nat.reduceEqDiff, ↓reduceIte, SSx, appendTo, elemsOf, SWx, and_self, and_true, true_and, Mem.newRef_eq, Mem.gen_nil, Mem.gen_new, Mem.gen_set, Mem.row_new, Mem.row_setW, Mem.new_out, Mem.set_out, List.length_nil, List.length_cons, Nat.zero_le, Nat.le_refl, Nat.reduceLeDiff, Nat.reduceAdd, Nat.zero_add, F]
     done)
  | (simp (maxSteps := 2000000) (disch := omega) only [SO, ofValue, ofCell, Nat.reduceBEq, Nat.reduceEqDiff, ↓reduceIte, SSx, appendTo, elemsOf, SWx, and_self, and_true, true_and, Mem.newRef_eq, Mem.gen_nil, Mem.gen_new, Mem.gen_set, Mem.row_new, Mem.row_setW, Mem.new_out, Mem.set_out, List.length_nil, List.length_cons, Nat.zero_le, Nat.le_refl, Nat.reduceLeDiff, Nat.reduceAdd, Nat.zero_add, F]
     exact hG)) : P := h f g
theorem fC {F P G : Prop} (f : F) (g : G) (h : F → G → P := by
  intro F hG
  first
  | (refine Function.const True ?_ hG
     simp (maxSteps := 2000000) (disch := omega) only [SO, ofValue, ofCell, Nat.reduceBEq, Nat.reduceEqDiff, ↓reduceIte, SCx, Int.reduceEq, and_self, and_true, true_and, Mem.newRef_eq, Mem.gen_nil, Mem.gen_new, Mem.gen_set, Mem.row_new, Mem.row_setW, Mem.new_out, Mem.set_out, List.length_nil, List.length_cons, Nat.zero_le, Nat.le_refl, Nat.reduceLeDiff, Nat.reduceAdd, Nat.zero_add, F]
     done)
  | (simp (maxSteps := 2000000) (disch := omega) only [SO, ofValue, ofCell, Nat.reduceBEq, Nat.reduceEqDiff, ↓reduceIte, SCx, Int.reduceEq, and_self, and_true, true_and, Mem.newRef_eq, Mem.gen_nil, Mem.gen_new, Mem.gen_set, Mem.row_new, Mem.row_setW, Mem.new_out, Mem.set_out, List.length_nil, List.length_cons, Nat.zero_le, Nat.le_refl, Nat.reduceLeDiff, Nat.reduceAdd, Nat.zero_add, F]
     exact hG)) : P := h f g
theorem fA {F P G : Prop} (f : F) (g : G) (h : F → G → P := by
  intro F hG
  first
  | (refine Function.const True ?_ hG
     simp (maxSteps := 2000000) (disch := omega) only [SO, ofValue, ofCell, Nat.reduceBEq, Nat.reduceEqDiff, ↓reduceIte, SAx, and_self, and_true, true_and, Mem.newRef_eq, Mem.gen_nil, Mem.gen_new, Mem.gen_set, Mem.row_new, Mem.row_setW, Mem.new_out, Mem.set_out, List.length_nil, List.length_cons, Nat.zero_le, Nat.le_refl, Nat.reduceLeDiff, Nat.reduceAdd, Nat.zero_add, F]
     done)
  | (simp (maxSteps := 2000000) (disch := omega) only [SO, ofValue, ofCell, Nat.reduceBEq, Nat.reduceEqDiff, ↓reduceIte, SAx, and_self, and_true, true_and, Mem.newRef_eq, Mem.gen_nil, Mem.gen_new, Mem.gen_set, Mem.row_new, Mem.row_setW, Mem.new_out, Mem.set_out, List.length_nil, List.length_cons, Nat.zero_le, Nat.le_refl, Nat.reduceLeDiff, Nat.reduceAdd, Nat.zero_add, F]
     exact hG)) : P := h f g
theorem fSA {F P G : Prop} (f : F) (g : G) (h : F → G → P := by
  intro F hG
  first
  | (refine Function.const True ?_ hG
     simp (maxSteps := 2000000) (disch := omega) only [SO, ofValue, ofCell, Nat.reduceBEq, Nat.reduceEqDiff, ↓reduceIte, SSx, appendTo, elemsOf, SAx, and_self, and_true, true_and, Mem.newRef_eq, Mem.gen_nil, Mem.gen_new, Mem.gen_set, Mem.row_new, Mem.row_setW, Mem.new_out, Mem.set_out, List.length_nil, List.length_cons, Nat.zero_le, Nat.le_refl, Nat.reduceLeDiff, Nat.reduceAdd, Nat.zero_add, F]
     done)
  | (simp (maxSteps := 2000000) (disch := omega) only [SO, ofValue, ofCell, Nat.reduceBEq, Nat.reduceEqDiff, ↓reduceIte, SSx, appendTo, elemsOf, SAx, and_self, and_true, true_and, Mem.newRef_eq, Mem.gen_nil, Mem.gen_new, Mem.gen_set, Mem.row_new, Mem.row_setW, Mem.new_out, Mem.set_out, List.length_nil, List.length_cons, Nat.zero_le, Nat.le_refl, Nat.reduceLeDiff, Nat.reduceAdd, Nat.zero_add, F]
     exact hG)) : P := h f g
end Go.Proofs.YtpocekfifokndaaDoor
namespace Go.Proofs.YtpocekfifokndaaDoor
open Go Go.Ev Go.Pl
set_option maxRecDepth 100000
set_option maxHeartbeats 4000000
theorem P86 (a : List Nat) (sh : Int) (t : Nat) (hsh : 72 + sh = t) (ha : ∀ d ∈ a, d < 60) (hl : t + a.length ≤ 168) : Ans X 86 [.sl (nats a), vi sh] (.ret (wv (numL a.reverse * 60 ^ t))) := by
  refine call_of_X (fn := Tryd.f86) 2 Tryd.func86 rfl (by decide +kernel) rfl ?_ ?_ ?_ ?_
  · rfl
  · intro h; exact absurd h (by rw [show scalarRes Tryd.prog 86 = false by kernel_rfl]; decide)
  · intro v hv; injection hv with hv; subst hv; exact wv_still _
  intro s hs hd ho
  have hm : s.m = ⟨.nil, []⟩ := by subst hs; rfl
  have h0 : s.t.get 0 = .sl (nats a) := by subst hs; rfl
  have h1 : s.t.get 1 = vi sh := by subst hs; rfl
  clear hs
  have hrev : ∀ d ∈ a.reverse, d < 60 := fun d hd => ha d (List.mem_reverse.1 hd)
  refine gPW (aI @h0 <|aI @hm <|@nats_length) ?_
  refine W_loopg (fun (k : Nat) s => s.dfs = [] ∧ s.m.out.length = 0 ∧ s.t.get 0 = .sl (nats a) ∧ s.t.get 1 = vi sh ∧ s.t.get 8 = .sl (nats a) ∧ s.t.get 9 = vn a.length ∧ s.t.get 10 = vn k ∧
    s.t.get 4 = .ptr ⟨0, 4, 0, 1⟩ 0 0 ∧ s.t.get 5 = .ptr ⟨0, 5, 0, 1⟩ 0 0 ∧
    s.m.row ⟨0, 5, 0, 1⟩ = some ⟨1, 100, false, false, [.agg (wc fun j => if t + a.length - k ≤ j then dig (numL a.reverse * 60 ^ t) j else 0)]⟩ ∧
    s.m.row ⟨0, 4, 0, 1⟩ = some ⟨1, 100, false, false, [.agg (wc fun _ => 0)]⟩ ∧ k ≤ a.length) (fun k => a.length - k) 0 ?_ ?_
  · refine ⟨hd, ?_, ?_, ?_, ?_, ?_, ?_, ?_, ?_, ?_, ?_, Nat.zero_le _⟩
    all_goals (try refine fW (aI @h0 <|aI @h1 <|@hm) ?_);all_goals try exact True.intro
    · rfl
    · refine wrow fun j _ => ?_
      split
      · rw [dig_shift, if_neg (by omega)]
        have := num_lt hrev
        rw [List.length_reverse] at this
        exact (dig_of_lt (lt_pow_mono this (by omega))).symm
      · rfl
  clear hd h0 h1 ho hm
  rintro k s ⟨hd, ho, h0, h1, h8, h9, h10, h4, h5, r5, r4, hk⟩
  refine gPW (aI @h0 <|aI @h1 <|aI @h8 <|aI @h9 <|aI @h10 <|aI @h4 <|aI @h5 <|aI @r5 <|aI @r4 <|@ho) ?_
  refine cnd (fun h => ?_) (fun h => ?_)
  · have h := of_decide_eq_true h
    have hk : k < a.length := by omega
    obtain ⟨d, hdk⟩ : ∃ d, a[k]? = some d := ⟨a[k], by simp⟩
    have t1 : dig (numL a.reverse * 60 ^ t) (t + a.length - 1 - k) = d := by
      rw [dig_shift, if_neg (by omega), num_dig hrev, List.getD_eq_getElem?_getD, List.getElem?_reverse (by omega)]
      rw [show a.length - 1 - (t + a.length - 1 - k - t) = k by omega, hdk]; rfl
    have hx : ((t + a.length : Nat) : Int) - 1 = ((t + a.length - 1 : Nat) : Int) := by omega
    have hy : ((t + a.length - 1 : Nat) : Int) - (k : Int) = ((t + a.length - 1 - k : Nat) : Int) := by omega
    have hi : t + a.length - 1 - k < 168 := by omega
    refine gPWC (aI @h0 <|aI @h1 <|aI @h8 <|aI @h9 <|aI @h10 <|aI @h4 <|aI @h5 <|aI @r5 <|aI @r4 <|aI @ho <|aI @nats_length <|aI @nats_get? <|aI @hdk <|aI @hsh <|aI @hx <|aI @hy <|@hi) ?_
    refine ⟨k + 1, ⟨hd, ?_, ?_, ?_, ?_, ?_, ?_, ?_, ?_, ?_, ?_, by omega⟩, by omega⟩
    all_goals (try refine fW (aI @h0 <|aI @h1 <|aI @h8 <|aI @h9 <|aI @h4 <|aI @h5 <|aI @r5 <|aI @r4 <|@ho) ?_);all_goals try exact True.intro
    refine wrow fun j _ => ?_
    by_cases e : j = t + a.length - 1 - k
    · subst e; rw [if_pos rfl, if_pos (by omega), t1]
    · rw [if_neg e]
      by_cases e' : t + a.length - k ≤ j
      · rw [if_pos e', if_pos (by omega)]
      · rw [if_neg e', if_neg (by omega)]
  · have h := of_decide_eq_false h
    obtain rfl : k = a.length := by omega
    have r5' : s.m.row ⟨0, 5, 0, 1⟩ = some ⟨1, 100, false, false, [.agg (wc (dig (numL a.reverse * 60 ^ t)))]⟩ := by
      rw [r5]
      refine wrow fun j hj => ?_
      split
      · rfl
      · rw [dig_shift, if_pos (by omega)]
    clear r5
    refine gPW (aI @h4 <|aI @h5 <|aI @r5' <|aI @r4 <|@ho) ?_
    refine rPW hd (aI @Tryd.results86 <|aI @h4 <|aI @h5 <|aI @r5' <|aI @r4 <|@ho) ?_
    try exact True.intro
end Go.Proofs.YtpocekfifokndaaDoor
namespace Go.Proofs.YtpocekfifokndaaDoor
open Go Go.Ev Go.Pl
set_option maxRecDepth 100000
set_option maxHeartbeats 4000000
theorem P115 (N n : Nat) (hN : N < 60 ^ 168) (hn : n < 2000000000000) : Ans X 115 [wv N, vn n] (if N * n < 60 ^ 168 then .ret (wv (N * n)) else .panic (.ifc 23 (.int .i64 3))) := by
  refine call_of_X (fn := Tryd.f115) 2 Tryd.func115 rfl (by decide +kernel) rfl ?_ ?_ ?_ ?_
  · simp only [List.any_cons, List.any_nil, wv_refs]; rfl
  · intro h; exact absurd h (by rw [show scalarRes Tryd.prog 115 = false by kernel_rfl]; decide)
  · intro v hv; split at hv
    · injection hv with hv; subst hv; exact wv_still _
    · cases hv
  intro s hs hd ho
  have hm : s.m = ⟨.nil, []⟩ := by subst hs; rfl
  have h0 : s.t.get 0 = .agg (wc (dig N)) := by subst hs; rfl
  have h1 : s.t.get 1 = vn n := by subst hs; rfl
  clear hs
  refine gPW (aI @h0 <|aI @h1 <|@hm) ?_
  refine W_loopg (fun (k : Nat) s => s.dfs = [] ∧ s.m.out.length = 0 ∧ s.t.get 1 = vn n ∧ s.t.get 2 = .ptr ⟨0, 2, 0, 1⟩ 0 0 ∧ s.t.get 4 = .ptr ⟨0, 4, 0, 1⟩ 0 0 ∧
    s.t.get 9 = .agg (wc (dig N)) ∧ s.t.get 10 = vn k ∧ s.t.get 5 = vn (N % 60 ^ k * n / 60 ^ k) ∧
    s.m.row ⟨0, 2, 0, 1⟩ = some ⟨1, 100, false, false, [.agg (wc fun j => if j < k then dig (N * n) j else dig N j)]⟩ ∧
    s.m.row ⟨0, 4, 0, 1⟩ = some ⟨1, 100, false, false, [.agg (wc fun _ => 0)]⟩ ∧ k ≤ 168) (fun k => 168 - k) 0 ?_ ?_
  · refine ⟨hd, ?_, ?_, ?_, ?_, ?_, ?_, ?_, ?_, ?_, Nat.zero_le _⟩
    all_goals (try refine fW (aI @h0 <|aI @h1 <|@hm) ?_);all_goals try exact True.intro
    · rfl
    · simp [Nat.mod_one]
    · simp
  clear hd h0 h1 ho hm
  rintro k s ⟨hd, ho, h1, h2, h4, h9, h10, h5, r2, r4, hk⟩
  refine gPW (aI @h1 <|aI @h2 <|aI @h4 <|aI @h9 <|aI @h10 <|aI @h5 <|aI @r2 <|aI @r4 <|@ho) ?_
  refine cnd (fun h => ?_) (fun h => ?_)
  · have h := of_decide_eq_true h
    have hk : k < 168 := by omega
    have hb : N % 60 ^ k * n / 60 ^ k < 2000000000000 := by
      refine Nat.div_lt_of_lt_mul ?_
      have h1 : N % 60 ^ k < 60 ^ k := Nat.mod_lt _ (pow_pos k)
      exact Nat.mul_lt_mul_of_lt_of_le h1 (by omega) (by omega)
    have hb2 : dig N k * n < 120000000000000 := by
      have := dig_lt N k
      calc dig N k * n ≤ 60 * n := Nat.mul_le_mul_right _ (by omega)
        _ < _ := by omega
    refine gPWC (aI @h1 <|aI @h2 <|aI @h4 <|aI @h9 <|aI @h10 <|aI @h5 <|aI @r2 <|aI @r4 <|aI @ho <|@hk) ?_
    obtain ⟨t1, t2⟩ := times_step N n k
    refine ⟨k + 1, ⟨hd, ?_, ?_, ?_, ?_, ?_, ?_, ?_, ?_, ?_, by omega⟩, by omega⟩
    all_goals (try refine fW (aI @h1 <|aI @h2 <|aI @h4 <|aI @h9 <|aI @h10 <|aI @h5 <|aI @r2 <|aI @r4 <|aI @ho <|aI @t1 <|@t2) ?_);all_goals try exact True.intro
    refine wrow fun j _ => ?_
    by_cases e : j = k
    · subst e; rw [if_pos rfl, if_pos (by omega)]
    · rw [if_neg e]
      by_cases e' : j < k
      · rw [if_pos e', if_pos (by omega)]
      · rw [if_neg e', if_neg (by omega)]
  · have h := of_decide_eq_false h
    obtain rfl : k = 168 := by omega
    rw [Nat.mod_eq_of_lt hN] at h5
    have r2' : s.m.row ⟨0, 2, 0, 1⟩ = some ⟨1, 100, false, false, [.agg (wc (dig (N * n)))]⟩ := by
      rw [r2]; exact wrow fun j hj => by rw [if_pos hj]
    clear r2
    refine gPW (aI @h1 <|aI @h2 <|aI @h4 <|aI @h9 <|aI @h10 <|aI @h5 <|aI @r2' <|aI @r4 <|@ho) ?_
    by_cases hlt : N * n < 60 ^ 168
    · have hz := Nat.div_eq_of_lt hlt
      rw [if_pos hlt]
      with_reducible refine W_cond2 (by simp only [SO, ofValue, ofCell, Nat.reduceBEq, Nat.reduceEqDiff, ↓reduceIte, h5]; rfl) (fun h => ?_) (fun h => ?_)
      · have h := of_decide_eq_true h; omega
      · refine gPW (aI @h1 <|aI @h2 <|aI @h4 <|aI @h9 <|aI @h10 <|aI @h5 <|aI @r2' <|aI @r4 <|@ho) ?_
        refine rPW hd (aI @Tryd.results115 <|aI @h1 <|aI @h2 <|aI @h4 <|aI @r2' <|aI @r4 <|@ho) ?_
        try exact True.intro
    · rw [if_neg hlt]
      with_reducible refine W_cond2 (by simp only [SO, ofValue, ofCell, Nat.reduceBEq, Nat.reduceEqDiff, ↓reduceIte, h5]; rfl) (fun h => ?_) (fun h => ?_)
      · refine gPW (aI @h1 <|aI @h2 <|aI @h4 <|aI @h9 <|aI @h10 <|aI @h5 <|aI @r2' <|aI @r4 <|@ho) ?_
        exact end_panic (X := X) (fn := Tryd.f115) hd rfl
      · have h := of_decide_eq_false h
        have : 0 < N * n / 60 ^ 168 := Nat.div_pos (by omega) (pow_pos 168)
        omega
end Go.Proofs.YtpocekfifokndaaDoor
namespace Go.Proofs.YtpocekfifokndaaDoor
open Go Go.Ev Go.Pl
set_option maxRecDepth 100000
set_option maxHeartbeats 4000000
theorem P120 (N M : Nat) : Ans X 120 [wv N, wv M] (.ret (wv (N + M))) := by
  refine call_of_X (fn := Tryd.f120) 2 Tryd.func120 rfl (by decide +kernel) rfl ?_ ?_ ?_ ?_
  · simp only [List.any_cons, List.any_nil, wv_refs]; rfl
  · intro h; exact absurd h (by rw [show scalarRes Tryd.prog 120 = false by kernel_rfl]; decide)
  · intro v hv; injection hv with hv; subst hv; exact wv_still _
  intro s hs hd ho
  have hm : s.m = ⟨.nil, []⟩ := by subst hs; rfl
  have h0 : s.t.get 0 = .agg (wc (dig N)) := by subst hs; rfl
  have h1 : s.t.get 1 = .agg (wc (dig M)) := by subst hs; rfl
  clear hs
  refine gPW (aI @h0 <|aI @h1 <|@hm) ?_
  refine W_loopg (fun (k : Nat) s => s.dfs = [] ∧ s.m.out.length = 0 ∧ s.t.get 2 = .ptr ⟨0, 2, 0, 1⟩ 0 0 ∧ s.t.get 4 = .ptr ⟨0, 4, 0, 1⟩ 0 0 ∧
    s.t.get 9 = .agg (wc (dig M)) ∧ s.t.get 10 = vn k ∧ s.t.get 5 = vn ((N % 60 ^ k + M % 60 ^ k) / 60 ^ k) ∧
    s.m.row ⟨0, 2, 0, 1⟩ = some ⟨1, 100, false, false, [.agg (wc fun j => if j < k then dig (N + M) j else dig N j)]⟩ ∧
    s.m.row ⟨0, 4, 0, 1⟩ = some ⟨1, 100, false, false, [.agg (wc fun _ => 0)]⟩ ∧ k ≤ 168) (fun k => 168 - k) 0 ?_ ?_
  · refine ⟨hd, ?_, ?_, ?_, ?_, ?_, ?_, ?_, ?_, Nat.zero_le _⟩
    all_goals (try refine fW (aI @h0 <|aI @h1 <|@hm) ?_);all_goals try exact True.intro
    · rfl
    · simp [Nat.mod_one]
    · simp
  clear hd h0 h1 ho hm
  rintro k s ⟨hd, ho, h2, h4, h9, h10, h5, r2, r4, hk⟩
  refine gPW (aI @h2 <|aI @h4 <|aI @h9 <|aI @h10 <|aI @h5 <|aI @r2 <|aI @r4 <|@ho) ?_
  refine cnd (fun h => ?_) (fun h => ?_)
  · have h := of_decide_eq_true h
    have hk : k < 168 := by omega
    have hb : (N % 60 ^ k + M % 60 ^ k) / 60 ^ k < 2 := by
      refine Nat.div_lt_of_lt_mul ?_
      have h1 : N % 60 ^ k < 60 ^ k := Nat.mod_lt _ (pow_pos k)
      have h2 : M % 60 ^ k < 60 ^ k := Nat.mod_lt _ (pow_pos k)
      omega
    have hb2 := dig_lt N k
    have hb3 := dig_lt M k
    refine gPWC (aI @h2 <|aI @h4 <|aI @h9 <|aI @h10 <|aI @h5 <|aI @r2 <|aI @r4 <|aI @ho <|@hk) ?_
    obtain ⟨t1, t2⟩ := plus_step N M k
    rw [Nat.add_assoc] at t1 t2
    refine ⟨k + 1, ⟨hd, ?_, ?_, ?_, ?_, ?_, ?_, ?_, ?_, by omega⟩, by omega⟩
    all_goals (try refine fW (aI @h2 <|aI @h4 <|aI @h9 <|aI @h10 <|aI @h5 <|aI @r2 <|aI @r4 <|aI @ho <|aI @t1 <|@t2) ?_);all_goals try exact True.intro
    refine wrow fun j _ => ?_
    by_cases e : j = k
    · subst e; rw [if_pos rfl, if_pos (by omega)]
    · rw [if_neg e]
      by_cases e' : j < k
      · rw [if_pos e', if_pos (by omega)]
      · rw [if_neg e', if_neg (by omega)]
  · have h := of_decide_eq_false h
    obtain rfl : k = 168 := by omega
    have r2' : s.m.row ⟨0, 2, 0, 1⟩ = some ⟨1, 100, false, false, [.agg (wc (dig (N + M)))]⟩ := by
      rw [r2]; exact wrow fun j hj => by rw [if_pos hj]
    clear r2
    refine gPW (aI @h2 <|aI @h4 <|aI @r2' <|aI @r4 <|@ho) ?_
    refine rPW hd (aI @Tryd.results120 <|aI @h2 <|aI @h4 <|aI @r2' <|aI @r4 <|@ho) ?_
    try exact True.intro
end Go.Proofs.YtpocekfifokndaaDoor
namespace Go.Pl
theorem canL_shift {N : Nat} (h : 0 < N) : ∀ k, canL (N * 60 ^ k) = List.replicate k 0 ++ canL N
  | 0 => by simp
  | k + 1 => by
    have hp : 0 < N * 60 ^ (k + 1) := Nat.mul_pos h (pow_pos _)
    rw [canL_pos hp, Nat.pow_succ, ← Nat.mul_assoc, Nat.mul_mod_left, Nat.mul_div_cancel _ (by decide), canL_shift h k, List.replicate_succ]
    rfl
theorem vz_zero : vz 0 = 0 := by rw [vz]; simp
theorem core_zero : core 0 = 0 := by simp [core]
theorem canL_core (N : Nat) : canL N = List.replicate (vz N) 0 ++ canL (core N) := by
  rcases Nat.eq_zero_or_pos N with rfl | h
  · rw [vz_zero, core_zero]; simp
  · obtain ⟨h1, h2, _⟩ := vz_spec h
    conv => lhs; rw [h1]
    exact canL_shift h2 _
theorem canL_len_core (N : Nat) : (canL N).length = vz N + (digB N).length := by
  rw [canL_core, List.length_append, List.length_replicate, digB, List.length_reverse]
theorem digB_zero : digB 0 = [] := by rw [digB, core_zero, canL_zero]; rfl
theorem digB_pos {N : Nat} (h : 0 < N) : 0 < (digB N).length := by
  rw [digB, List.length_reverse]; exact canL_length_pos (vz_spec h).2.1
theorem digB_get (N : Nat) {k : Nat} (hk : k < (digB N).length) : (digB N)[k]? = some (dig N ((canL N).length - 1 - k)) := by
  have hl := canL_len_core N
  have h1 : (digB N).length = (canL (core N)).length := by rw [digB, List.length_reverse]
  have idx : (canL N).length - 1 - k = vz N + ((canL (core N)).length - 1 - k) := by omega
  rw [digB, List.getElem?_reverse (by omega), idx]
  have h2 : (canL N)[vz N + ((canL (core N)).length - 1 - k)]? = (canL (core N))[(canL (core N)).length - 1 - k]? := by
    conv => lhs; rw [canL_core]
    rw [List.getElem?_append_right (by rw [List.length_replicate]; omega), List.length_replicate, Nat.add_sub_cancel_left]
  rw [← h2, canL_get?, if_pos]
  rcases Nat.lt_or_ge N (60 ^ (vz N + ((canL (core N)).length - 1 - k))) with h' | h'
  · have := canL_length_le.2 h'; omega
  · exact h'
theorem top_dig {N : Nat} (h : 0 < N) : dig N ((canL N).length - 1) ≠ 0 := by
  have hp := canL_length_pos h
  have h1 : 60 ^ ((canL N).length - 1) ≤ N := by
    rcases Nat.lt_or_ge N (60 ^ ((canL N).length - 1)) with h' | h'
    · have := canL_length_le.2 h'; omega
    · exact h'
  have h2 : N < 60 ^ ((canL N).length - 1) * 60 := by
    rw [← Nat.pow_succ, show ((canL N).length - 1).succ = (canL N).length by omega]
    exact canL_length_le.1 (Nat.le_refl _)
  unfold dig
  have h3 : 0 < N / 60 ^ ((canL N).length - 1) := Nat.div_pos h1 (pow_pos _)
  have h4 : N / 60 ^ ((canL N).length - 1) < 60 := Nat.div_lt_of_lt_mul h2
  omega
theorem top_zero {N j : Nat} (h : (canL N).length ≤ j) : dig N j = 0 := dig_of_lt (canL_length_le.1 h)
theorem digB_lt (N : Nat) : ∀ d ∈ digB N, d < 60 := fun d hd => canL_lt _ d (by rw [digB, List.mem_reverse] at hd; exact hd)
theorem num_digB (N : Nat) : numL (digB N).reverse = core N := by rw [digB, List.reverse_reverse, num_canL]
theorem core_eq (N : Nat) : N = core N * 60 ^ vz N := by
  rcases Nat.eq_zero_or_pos N with rfl | h
  · simp [core_zero]
  · exact (vz_spec h).1
theorem digB_shift (N k : Nat) : digB (N * 60 ^ k) = digB N := by
  rcases Nat.eq_zero_or_pos N with rfl | h
  · rw [Nat.zero_mul]
  · rw [digB, (core_shift N k h).2, digB]
theorem vz_shift {N : Nat} (h : 0 < N) (k : Nat) : vz (N * 60 ^ k) = vz N + k := (core_shift N k h).1
end Go.Pl
namespace Go.Proofs.YtpocekfifokndaaDoor
open Go Go.Ev Go.Pl
set_option maxRecDepth 100000
set_option maxHeartbeats 4000000
theorem num_rev_succ {l : List Nat} {k d : Nat} (h : l[k]? = some d) : numL (l.take (k + 1)).reverse = d + 60 * numL (l.take k).reverse := by
  rw [List.take_add_one, h]
  simp [numL]
theorem P80 (a b : List Nat) (ha : ∀ d ∈ a, d < 60) (hb : ∀ d ∈ b, d < 60) (la : a.length ≤ 16) (lb : b.length ≤ 16) : Ans X 80 [.sl (nats a), .sl (nats b)] (.ret (wv (numL a.reverse * numL b.reverse * 60 ^ 72))) := by
  refine call_of_X (fn := Tryd.f80) 2 Tryd.func80 rfl (by decide +kernel) rfl ?_ ?_ ?_ ?_
  · rfl
  · intro h; exact absurd h (by rw [sr80]; decide)
  · intro v hv; injection hv with hv; subst hv; exact wv_still _
  intro s hs hd ho
  have hm : s.m = ⟨.nil, []⟩ := by subst hs; rfl
  have h0 : s.t.get 0 = .sl (nats a) := by subst hs; rfl
  have h1 : s.t.get 1 = .sl (nats b) := by subst hs; rfl
  clear hs
  have hA : numL a.reverse < 60 ^ 16 := by
    have := num_lt (l := a.reverse) (fun d hd => ha d (List.mem_reverse.1 hd))
    rw [List.length_reverse] at this
    exact lt_pow_mono this la
  generalize hAe : numL a.reverse = A at hA
  refine gPW (aI @h1 <|aI @hm <|@nats_length) ?_
  refine W_loopg (fun (k : Nat) s => s.dfs = [] ∧ s.m.out.length = 0 ∧ s.t.get 0 = .sl (nats a) ∧ s.t.get 1 = .sl (nats b) ∧ s.t.get 8 = .sl (nats b) ∧ s.t.get 9 = vn b.length ∧ s.t.get 10 = vn k ∧
    s.t.get 4 = .ptr ⟨0, 4, 0, 1⟩ 0 0 ∧ s.t.get 5 = .ptr ⟨0, 5, 0, 1⟩ 0 0 ∧
    s.m.row ⟨0, 5, 0, 1⟩ = some ⟨1, 100, false, false, [wv (A * numL (b.take k).reverse * 60 ^ (72 + (b.length - k)))]⟩ ∧
    s.m.row ⟨0, 4, 0, 1⟩ = some ⟨1, 100, false, false, [.agg (wc fun _ => 0)]⟩ ∧ k ≤ b.length) (fun k => b.length - k) 0 ?_ ?_
  · refine ⟨hd, ?_, ?_, ?_, ?_, ?_, ?_, ?_, ?_, ?_, ?_, Nat.zero_le _⟩
    all_goals (try refine fW (aI @h0 <|aI @h1 <|@hm) ?_);all_goals try exact True.intro
    · rfl
    · simp [numL, wc, dig]
  clear hd h0 h1 ho hm
  rintro k s ⟨hd, ho, h0, h1, h8, h9, h10, h4, h5, r5, r4, hk⟩
  refine gPW (aI @h0 <|aI @h1 <|aI @h8 <|aI @h9 <|aI @h10 <|aI @h4 <|aI @h5 <|aI @r5 <|aI @r4 <|@ho) ?_
  refine cnd (fun h => ?_) (fun h => ?_)
  · have h := of_decide_eq_true h
    have hk : k < b.length := by omega
    obtain ⟨d, hdk⟩ : ∃ d, b[k]? = some d := ⟨b[k], by simp⟩
    have hd60 : d < 60 := hb d (List.mem_of_getElem? hdk)
    have hx : (b.length : Int) - 1 - k = ((b.length - 1 - k : Nat) : Int) := by omega
    have q1 := P86 a ((b.length - 1 - k : Nat) : Int) (72 + (b.length - 1 - k)) (by omega) ha (by omega)
    rw [hAe] at q1
    have q2 := P115 (A * 60 ^ (72 + (b.length - 1 - k))) d (by
      have e1 : (60 : Nat) ^ (72 + (b.length - 1 - k)) ≤ 60 ^ 90 := Nat.pow_le_pow_right (by decide) (by omega)
      calc A * 60 ^ (72 + (b.length - 1 - k)) < 60 ^ 16 * 60 ^ 90 := Nat.mul_lt_mul_of_lt_of_le hA e1 (by decide)
        _ ≤ 60 ^ 168 := by decide) (by omega)
    rw [if_pos (by
      have e1 : (60 : Nat) ^ (72 + (b.length - 1 - k)) ≤ 60 ^ 90 := Nat.pow_le_pow_right (by decide) (by omega)
      have e2 : A * 60 ^ (72 + (b.length - 1 - k)) ≤ 60 ^ 16 * 60 ^ 90 := Nat.mul_le_mul (Nat.le_of_lt hA) e1
      calc A * 60 ^ (72 + (b.length - 1 - k)) * d ≤ 60 ^ 16 * 60 ^ 90 * 60 := Nat.mul_le_mul e2 (by omega)
        _ < 60 ^ 168 := by decide)] at q2
    have q3 := P120 (A * numL (b.take k).reverse * 60 ^ (72 + (b.length - k))) (A * 60 ^ (72 + (b.length - 1 - k)) * d)
    have e : A * numL (b.take k).reverse * 60 ^ (72 + (b.length - k)) + A * 60 ^ (72 + (b.length - 1 - k)) * d = A * numL (b.take (k + 1)).reverse * 60 ^ (72 + (b.length - (k + 1))) := by
      rw [num_rev_succ hdk, show 72 + (b.length - k) = (72 + (b.length - (k + 1))) + 1 by omega, show 72 + (b.length - 1 - k) = 72 + (b.length - (k + 1)) by omega, Nat.pow_succ]
      grind
    rw [e] at q3
    refine gPWC (aI @h0 <|aI @h1 <|aI @h8 <|aI @h9 <|aI @h10 <|aI @h4 <|aI @h5 <|aI @r5 <|aI @r4 <|aI @ho <|aI @nats_length <|aI @nats_get? <|aI @hdk <|aI @hx <|aI @wr_i64 <|aI @co86 <|aI @co115 <|aI @co120 <|aI @sr86 <|aI @sr115 <|aI @sr120 <|aI @q1.iffx <|aI @q2.iffx <|@q3.iffx) ?_
    refine ⟨k + 1, ⟨hd, ?_, ?_, ?_, ?_, ?_, ?_, ?_, ?_, ?_, ?_, by omega⟩, by omega⟩
    all_goals (try refine fW (aI @h0 <|aI @h1 <|aI @h8 <|aI @h9 <|aI @h4 <|aI @h5 <|aI @r5 <|aI @r4 <|@ho) ?_);all_goals try exact True.intro
  · have h := of_decide_eq_false h
    obtain rfl : k = b.length := by omega
    have r5' : s.m.row ⟨0, 5, 0, 1⟩ = some ⟨1, 100, false, false, [wv (A * numL b.reverse * 60 ^ 72)]⟩ := by
      rw [r5, List.take_length, Nat.sub_self]
    refine gPW (aI @h4 <|aI @h5 <|aI @r5' <|aI @r4 <|@ho) ?_
    refine rPW hd (aI @Tryd.results80 <|aI @h4 <|aI @h5 <|aI @r5' <|aI @r4 <|@ho) ?_
    try exact True.intro
end Go.Proofs.YtpocekfifokndaaDoor
namespace Go.Proofs.YtpocekfifokndaaDoor
open Go Go.Ev Go.Pl
set_option maxRecDepth 100000
set_option maxHeartbeats 4000000
def allEq (f g : Nat → Nat) : Nat → Nat → Bool
  | 0, _ => true
  | k + 1, i => f i == g i && allEq f g k (i + 1)
theorem allEq_iff {f g : Nat → Nat} : ∀ {k i : Nat}, allEq f g k i = true ↔ ∀ j, i ≤ j → j < i + k → f j = g j
  | 0, i => by simp only [allEq, true_iff]; intro j h1 h2; omega
  | k + 1, i => by
    unfold allEq
    rw [Bool.and_eq_true, beq_iff_eq, allEq_iff]
    constructor
    · rintro ⟨h1, h2⟩ j h3 h4
      by_cases e : j = i
      · subst e; exact h1
      · exact h2 j (by omega) (by omega)
    · intro H
      exact ⟨H i (by omega) (by omega), fun j h1 h2 => H j (by omega) (by omega)⟩
theorem eqE (d : Nat) (f g : Nat → Nat) : ∀ k i, i + k ≤ 168 → eqElems (eqT Tryd.prog (d + 1) 3) Tryd.prog 3 (wc f) (wc g) k i = some (allEq f g k i) := by
  intro k
  induction k with
  | zero => intro i h; simp [eqElems, allEq]
  | succ k ih =>
    intro i h
    have e : ∀ f : Nat → Nat, Go.Ev.part Tryd.prog 3 (wc f) (i * Tryd.prog.cellsOf 3) = some (vn (f i)) := fun f => by
      unfold Go.Ev.part
      rw [a3, c3, Nat.mul_one, wc_get f (by omega)]
    have e2 : eqT Tryd.prog (d + 1) 3 (vn (f i)) (vn (g i)) = some (f i == g i) := by
      unfold eqT
      simp only [Tryd.underlying3, if_true]
      congr 1
      rw [Bool.eq_iff_iff, beq_iff_eq, beq_iff_eq]
      omega
    rw [eqElems, e, e]
    simp only [e2, allEq]
    cases hfg : f i == g i with
    | true => simp only [Bool.true_and]; exact ih (i + 1) (by omega)
    | false => rfl
theorem eqT98' (d : Nat) (f g : Nat → Nat) : eqT Tryd.prog (d + 2) 98 (.agg (wc f)) (.agg (wc g)) = some (allEq f g 168 0) := by
  unfold eqT
  simp only [Tryd.underlying98, a3, Option.isSome_some, if_true]
  exact eqE d f g 168 0 (by omega)
theorem eqT98 (f g : Nat → Nat) : eqT Tryd.prog 8 98 (.agg (wc f)) (.agg (wc g)) = some (allEq f g 168 0) := eqT98' 6 f g
theorem part98 (f : Nat → Nat) : Go.Ev.part Tryd.prog 98 (wc f) 0 = some (.agg (wc f)) := by
  unfold Go.Ev.part
  rw [a98, c98, wc_take]
theorem eqT100 (f g : Nat → Nat) : eqT Tryd.prog 8 100 (.agg (wc f)) (.agg (wc g)) = some (allEq f g 168 0) := by
  unfold eqT
  simp only [Tryd.underlying100, show Tryd.prog.stoodInHeld 100 = false by kernel_rfl, Bool.false_eq_true, if_false, eqFields, part98, eqT98' 5, String.reduceEq]
  cases allEq f g 168 0 <;> rfl
theorem eqOk98 (cx cy : Bool) (f g : Nat → Nat) : eqOk Tryd.prog 98 cx cy (.agg (wc f)) (.agg (wc g)) = true := by
  simp only [eqOk, show Tryd.prog.eqGuardType Tryd.prog.depth 98 = false by kernel_rfl, Bool.not_false]
theorem eqOk100 (cx cy : Bool) (f g : Nat → Nat) : eqOk Tryd.prog 100 cx cy (.agg (wc f)) (.agg (wc g)) = true := by
  simp only [eqOk, show Tryd.prog.eqGuardType Tryd.prog.depth 100 = false by kernel_rfl, Bool.not_false]
theorem allEq_dig {N M : Nat} (hN : N < 60 ^ 168) (hM : M < 60 ^ 168) : allEq (dig N) (dig M) 168 0 = decide (N = M) := by
  rw [Bool.eq_iff_iff, allEq_iff, decide_eq_true_eq]
  constructor
  · intro h
    exact dig_ext hN hM fun i hi => h i (Nat.zero_le _) (by omega)
  · rintro rfl j _ _; rfl
theorem allEq_zero {N : Nat} (hN : N < 60 ^ 168) : allEq (dig N) (fun _ => 0) 168 0 = decide (N = 0) := by
  have e : (fun _ : Nat => 0) = dig 0 := by funext i; simp [dig]
  rw [e]; exact allEq_dig hN (by decide)
theorem P134 (N : Nat) (hN : N < 60 ^ 168) : Ans X 134 [wv N] (.ret (.bool (decide (N = 0)))) := by
  refine call_of_X (fn := Tryd.f134) 1 Tryd.func134 rfl (by decide +kernel) rfl ?_ ?_ ?_ ?_
  · simp only [List.any_cons, List.any_nil, wv_refs]; rfl
  · exact fun _ => rfl
  · intro v hv; injection hv with hv; subst hv; rfl
  intro s hs hd ho
  have hm : s.m = ⟨.nil, []⟩ := by subst hs; rfl
  have h0 : s.t.get 0 = .agg (wc (dig N)) := by subst hs; rfl
  clear hs
  repeat (first
    | with_reducible first | refine W_seq ?_ | refine W_skip ?_ | refine W_label ?_ | refine W_ret ?_ | refine W_exit ?_ | refine W_block ?_ | refine thenI ?_ | refine thenRet ?_ | refine thenExit ?_ | refine blockRet ?_ | refine blockI ?_ | refine blockExit ?_ | refine blockExitNe rfl ?_
    | (with_reducible refine W_region_k ?_
       intro K hK
       simp (maxSteps := 2000000) (disch := omega) only [SA, ofValue, ofCell, bin, intBin, un, idx, Go.Ev.builtin, calleeOf, V.isNilS, V.depthOk, depth1, V.ok1, V.isAgg, V.cells, isConst, Nat.reduceBEq, Nat.reduceEqDiff, ↓reduceIte, Nat.reduceLeDiff, Nat.reduceAdd, Nat.reduceMul, Nat.reduceSub, Nat.reduceLT, Int.reduceAdd, Int.reduceSub, Int.reduceMul, Int.reduceLT, Int.reduceLE, Int.reduceToNat, Int.reduceNeg, reduceIte, reduceCtorEq, SPx, SWx, h0, hm, fillParts, eqOk98, eqT98, List.map_nil]
       refine hK _ _ ?_
       clear hK K)
  )
  refine rPW hd (aI @Tryd.results134 <|aI @hm <|(allEq_zero hN)) ?_
  try exact True.intro
end Go.Proofs.YtpocekfifokndaaDoor
namespace Go.Proofs.YtpocekfifokndaaDoor
open Go Go.Ev Go.Pl
set_option maxRecDepth 100000
set_option maxHeartbeats 4000000
def placeRes (N : Nat) : Res := if N = 0 then .ret (.agg [.sl [], vi 0]) else if 16 < (digB N).length ∨ 64 < (vz N : Int) - 72 ∨ (vz N : Int) - 72 < -64 then .panic (.ifc 23 (.int .i64 3)) else .ret (.agg [.sl (nats (digB N)), vi ((vz N : Int) - 72)])
theorem nats_map (l : List Nat) : List.map vn l = nats l := rfl
theorem P81 (N : Nat) (hN : N < 60 ^ 168) : Ans X 81 [wv N] (placeRes N) := by
  refine call_of_X (fn := Tryd.f81) 1 Tryd.func81 rfl (by decide +kernel) rfl ?_ ?_ ?_ ?_
  · simp only [List.any_cons, List.any_nil, wv_refs]; rfl
  · intro h; exact absurd h (by rw [sr81]; decide)
  · intro v hv; unfold placeRes at hv; split at hv
    · injection hv with hv; subst hv; rfl
    · split at hv
      · cases hv
      · injection hv with hv; subst hv; rfl
  intro s hs hd ho
  have hm : s.m = ⟨.nil, []⟩ := by subst hs; rfl
  have h0 : s.t.get 0 = .agg (wc (dig N)) := by subst hs; rfl
  clear hs
  refine gPAW (aI @h0 <|aI @hm <|aI @co134 <|aI @sr134 <|((P134 N hN).iffx)) ?_
  refine cnd (fun h => ?_) (fun h => ?_)
  · have hz : N = 0 := of_decide_eq_true h
    refine gPA @hm ?_
    rw [placeRes, if_pos hz]
    refine rPAS hd (aI @Tryd.results81 <|@hm) ?_
    try exact True.intro
    rfl
  have hz : 0 < N := by have := of_decide_eq_false h; omega
  have hvl := vz_lt hz hN
  have hl := canL_len_core N
  have hdp := digB_pos hz
  have hcl := canL_length_le.2 hN
  refine gPAW (aI @h0 <|@hm) ?_
  refine W_loopg (fun (k : Nat) s => s.dfs = [] ∧ s.m.out.length = 0 ∧ s.t.get 1 = .ptr ⟨0, 1, 0, 1⟩ 0 0 ∧ s.t.get 2 = .ptr ⟨0, 2, 0, 1⟩ 0 0 ∧ s.t.get 3 = vn k ∧ s.t.get 4 = vn 167 ∧
    s.m.row ⟨0, 1, 0, 1⟩ = some ⟨1, 100, false, false, [.agg (wc (dig N))]⟩ ∧ s.m.row ⟨0, 2, 0, 1⟩ = some ⟨1, 54, false, false, [.agg [.rs ⟨0, 2, 1, 1⟩ 0 0 0, vi 0]]⟩ ∧
    s.m.gen 26 1 = 0 ∧ s.m.gen 5 0 = 0 ∧ k ≤ vz N) (fun k => vz N - k) 0 ?_ ?_
  · refine ⟨hd, ?_, ?_, ?_, ?_, ?_, ?_, ?_, ?_, ?_, Nat.zero_le _⟩
    all_goals (try refine fW (aI @h0 <|@hm) ?_);all_goals try exact True.intro
    all_goals rfl
  clear hd h0 ho hm
  rintro k s ⟨hd, ho, h1, h2, h3, h4, r1, r2, g26, g5, hk⟩
  have hk1 : k < 168 := by omega
  by_cases hkz : k < vz N
  · have hd0 : dig N k = 0 := vz_dig_lt hkz
    refine gPAWC (aI @h1 <|aI @h2 <|aI @h3 <|aI @h4 <|aI @r1 <|aI @r2 <|aI @ho <|aI @hk1 <|aI @hd0 <|@Int.natCast_zero) ?_
    refine cnd (fun h => ?_) (fun h => ?_)
    · refine gPC @h3 ?_
      refine ⟨k + 1, ⟨hd, ?_, ?_, ?_, ?_, ?_, ?_, ?_, ?_, ?_, by omega⟩, by omega⟩
      all_goals (try refine f0 (aI @ho <|aI @h1 <|aI @h2 <|aI @h4 <|aI @r1 <|aI @r2 <|aI @g26 <|@g5) ?_);all_goals try exact True.intro
    · simp at h
  obtain rfl : k = vz N := by omega
  have hne : ¬ (((dig N (vz N) : Nat) : Int) = 0) := by have := vz_dig hz; omega
  refine gPAWC (aI @h1 <|aI @h2 <|aI @h3 <|aI @h4 <|aI @r1 <|aI @r2 <|aI @ho <|aI @hk1 <|(beq_eq_false_iff_ne.2 hne)) ?_
  refine cnd (fun h => ?_) (fun h => ?_)
  · simp at h
  refine gPAW (aI @h1 <|aI @h2 <|aI @h3 <|aI @h4 <|aI @r1 <|aI @r2 <|@ho) ?_
  refine W_loopg (fun (k : Nat) s => s.dfs = [] ∧ s.m.out.length = 0 ∧ s.t.get 1 = .ptr ⟨0, 1, 0, 1⟩ 0 0 ∧ s.t.get 2 = .ptr ⟨0, 2, 0, 1⟩ 0 0 ∧ s.t.get 3 = vn (vz N) ∧ s.t.get 4 = vn k ∧
    s.m.row ⟨0, 1, 0, 1⟩ = some ⟨1, 100, false, false, [.agg (wc (dig N))]⟩ ∧ s.m.row ⟨0, 2, 0, 1⟩ = some ⟨1, 54, false, false, [.agg [.rs ⟨0, 2, 1, 1⟩ 0 0 0, vi 0]]⟩ ∧
    s.m.gen 26 1 = 0 ∧ s.m.gen 5 0 = 0 ∧ k < 168 ∧ (canL N).length - 1 ≤ k) (fun k => k) 167 ?_ ?_
  · refine ⟨hd, ?_, ?_, ?_, ?_, ?_, ?_, ?_, ?_, ?_, by omega, by omega⟩
    all_goals (try refine f0 (aI @ho <|aI @h1 <|aI @h2 <|aI @h3 <|aI @h4 <|aI @r1 <|aI @r2 <|aI @g26 <|@g5) ?_);all_goals try exact True.intro
  clear hd h1 h2 h3 h4 ho r1 r2 g26 g5
  rintro k s ⟨hd, ho, h1, h2, h3, h4, r1, r2, g26, g5, hk1, hk⟩
  by_cases hkz : (canL N).length - 1 < k
  · have hd0 : dig N k = 0 := top_zero (by omega)
    have hsub : ((k : Nat) : Int) - 1 = ((k - 1 : Nat) : Int) := by omega
    refine gPAWC (aI @h1 <|aI @h2 <|aI @h3 <|aI @h4 <|aI @r1 <|aI @r2 <|aI @ho <|aI @hk1 <|aI @hd0 <|@Int.natCast_zero) ?_
    refine cnd (fun h => ?_) (fun h => ?_)
    · refine gPC (aI @h4 <|@hsub) ?_
      refine ⟨k - 1, ⟨hd, ?_, ?_, ?_, ?_, ?_, ?_, ?_, ?_, ?_, by omega, by omega⟩, by omega⟩
      all_goals (try refine f0 (aI @ho <|aI @h1 <|aI @h2 <|aI @h3 <|aI @r1 <|aI @r2 <|aI @g26 <|@g5) ?_);all_goals try exact True.intro
    · simp at h
  obtain rfl : k = (canL N).length - 1 := by omega
  have hne : ¬ (((dig N ((canL N).length - 1) : Nat) : Int) = 0) := by have := top_dig hz; omega
  refine gPAWC (aI @h1 <|aI @h2 <|aI @h3 <|aI @h4 <|aI @r1 <|aI @r2 <|aI @ho <|aI @hk1 <|(beq_eq_false_iff_ne.2 hne)) ?_
  refine cnd (fun h => ?_) (fun h => ?_)
  · simp at h
  refine gPAW (aI @h1 <|aI @h2 <|aI @h3 <|aI @h4 <|aI @r1 <|aI @r2 <|aI @ho <|aI @g26 <|aI @g5 <|@wr_i64) ?_
  refine W_loopg (fun (k : Nat) s => s.dfs = [] ∧ s.m.out.length = 0 ∧ s.t.get 1 = .ptr ⟨0, 1, 0, 1⟩ 0 0 ∧ s.t.get 2 = .ptr ⟨0, 2, 0, 1⟩ 0 0 ∧ s.t.get 3 = vn (vz N) ∧ s.t.get 5 = .ptr ⟨0, 5, 0, 1⟩ 0 0 ∧ s.t.get 6 = vi (((canL N).length : Int) - 1 - k) ∧
    s.m.row ⟨0, 1, 0, 1⟩ = some ⟨1, 100, false, false, [.agg (wc (dig N))]⟩ ∧ s.m.row ⟨0, 2, 0, 1⟩ = some ⟨1, 54, false, false, [.agg [.rs ⟨0, 2, 1, 1⟩ 0 0 0, vi 0]]⟩ ∧
    (∃ v, s.m.row ⟨0, 5, 0, 1⟩ = some ⟨1, 54, false, false, [.agg [v, vi ((vz N : Int) - 72)]]⟩ ∧ Held s.m 26 1 v ((digB N).take k)) ∧ k ≤ (digB N).length) (fun k => (digB N).length - k) 0 ?_ ?_
  · refine ⟨hd, ?_, ?_, ?_, ?_, ?_, ?_, ?_, ?_, ⟨.rs ⟨0, 26, 1, 1⟩ 0 0 0, ?_, 1, 0, rfl, ?_, .inr ⟨rfl, rfl⟩⟩, Nat.zero_le _⟩
    all_goals (try refine f0 (aI @ho <|aI @h1 <|aI @h2 <|aI @h3 <|aI @h4 <|aI @r1 <|aI @r2 <|aI @g26 <|@g5) ?_);all_goals try exact True.intro
    · congr 1; omega
    · rfl
  clear hd h1 h2 h3 h4 ho r1 r2 g26 g5
  rintro k s ⟨hd, ho, h1, h2, h3, h5, h6, r1, r2, ⟨v, r5, g, ty, rfl, r26, hty⟩, hk⟩
  have hlen : ((digB N).take k).length = k := by rw [List.length_take]; omega
  rw [hlen] at r5 hty
  refine gPAW (aI @h1 <|aI @h2 <|aI @h3 <|aI @h5 <|aI @h6 <|aI @r1 <|aI @r2 <|aI @r5 <|aI @r26 <|@ho) ?_
  refine cnd (fun h => ?_) (fun h => ?_)
  · have h := of_decide_eq_true h
    have hk : k < (digB N).length := by omega
    have hdk := digB_get N hk
    have hc : (((canL N).length : Int) - 1 - k).toNat = (canL N).length - 1 - k := by omega
    have hc0 : (0 : Int) ≤ ((canL N).length : Int) - 1 - k := by omega
    have hc1 : ((canL N).length : Int) - 1 - k < 168 := by omega
    have hc2 : (canL N).length - 1 - k < 168 := by omega
    have hnat : nats ((digB N).take k) ++ [vn (dig N ((canL N).length - 1 - k))] = nats ((digB N).take (k + 1)) := by
      rw [nats_snoc, List.take_add_one, hdk]; rfl
    have hcut : cut (nats ((digB N).take k)) 0 k = nats ((digB N).take k) := by
      conv => lhs; arg 3; rw [← hlen]
      exact cut_nats _
    refine gPASW (aI @cut_one <|aI @hcut <|aI @hnat <|aI @h1 <|aI @h2 <|aI @h3 <|aI @h5 <|aI @h6 <|aI @r1 <|aI @r2 <|aI @r5 <|aI @r26 <|aI @ho <|aI @hty <|aI @hlen <|aI @hc <|aI @hc0 <|aI @hc1 <|aI @hc2 <|@wr_i64) ?_
    refine ⟨k + 1, ⟨hd, ?_, ?_, ?_, ?_, ?_, ?_, ?_, ?_, ⟨.rs ⟨0, 26, 1, g + 1⟩ 3 0 (k + 1), ?_, g + 1, 3, ?_, ?_, .inl rfl⟩, by omega⟩, by omega⟩
    all_goals (try simp (maxSteps := 2000000) (disch := omega) only [SO, ofValue, ofCell, Nat.reduceBEq, Nat.reduceEqDiff, ↓reduceIte, and_self, and_true, true_and, Mem.newRef_eq, Mem.gen_nil, Mem.gen_new, Mem.gen_set, Mem.row_new, Mem.row_setW, Mem.new_out, Mem.set_out, List.length_nil, List.length_cons, Nat.zero_le, Nat.le_refl, Nat.reduceLeDiff, Nat.reduceAdd, and_self, and_true, true_and, Nat.zero_add, SSx, appendTo, elemsOf, SAx, SWx, ho, h1, h2, h3, h5, h6, r1, r2, r5, r26, hlen])
    · congr 1; omega
    · rw [List.length_take, Nat.min_eq_left (by omega)]
  have h := of_decide_eq_false h
  obtain rfl : k = (digB N).length := by omega
  rw [List.take_length] at r26
  have hcn : cut (nats (digB N)) 0 (digB N).length = nats (digB N) := cut_nats _
  by_cases b1 : ((digB N).length : Int) > 16
  · refine gPA (aI @h2 <|aI @h5 <|aI @r2 <|aI @r5 <|aI @ho <|@b1) ?_
    refine cnd (fun h => ?_) (fun h => ?_)
    · refine gP @Nat.zero_add ?_
      rw [placeRes, if_neg (by omega), if_pos (.inl (by omega))]
      exact end_panic (X := X) (fn := Tryd.f81) hd rfl
    · simp at h
  by_cases b2 : (vz N : Int) - 72 > 64
  · refine gPA (aI @h2 <|aI @h5 <|aI @r2 <|aI @r5 <|aI @ho <|aI @b1 <|@b2) ?_
    refine cnd (fun h => ?_) (fun h => ?_)
    · refine gP @Nat.zero_add ?_
      rw [placeRes, if_neg (by omega), if_pos (.inr (.inl (by omega)))]
      exact end_panic (X := X) (fn := Tryd.f81) hd rfl
    · simp at h
  refine gPA (aI @h2 <|aI @h5 <|aI @r2 <|aI @r5 <|aI @ho <|aI @b1 <|@b2) ?_
  refine cnd (fun h => ?_) (fun h => ?_)
  · have h := of_decide_eq_true h
    refine gP @Nat.zero_add ?_
    rw [placeRes, if_neg (by omega), if_pos (.inr (.inr (by omega)))]
    exact end_panic (X := X) (fn := Tryd.f81) hd rfl
  · have h := of_decide_eq_false h
    refine gPA (aI @h2 <|aI @h5 <|aI @r2 <|aI @r5 <|aI @r26 <|@ho) ?_
    rw [placeRes, if_neg (by omega), if_neg (by omega)]
    refine rPAS hd (aI @Tryd.results81 <|aI @h2 <|aI @r26 <|aI @ho <|@r2) ?_
    try exact True.intro
end Go.Proofs.YtpocekfifokndaaDoor
namespace Go.Proofs.YtpocekfifokndaaDoor
open Go Go.Ev Go.Pl
set_option maxRecDepth 100000
set_option maxHeartbeats 4000000
theorem P133 (k : Int) : Ans X 133 [.ifc 23 (vi k)] (.ret (vi k)) := by
  refine call_of_X (fn := Tryd.f133) 1 Tryd.func133 rfl (by decide +kernel) rfl ?_ ?_ ?_ ?_
  · rfl
  · exact fun _ => rfl
  · intro v hv; injection hv with hv; subst hv; rfl
  intro s hs hd ho
  have h0 : s.t.get 0 = .ifc 23 (vi k) := by subst hs; rfl
  clear hs
  refine gP @h0 ?_
  refine cnd (fun h => ?_) (fun h => ?_)
  · refine gP @Nat.zero_add ?_
    refine rP hd @Tryd.results133 ?_
    try exact True.intro
  · simp at h
theorem placeRes_mul {P : Nat} (hP : P < 60 ^ 32) : placeRes (P * 60 ^ 72) = if 16 < (digB P).length then .panic (.ifc 23 (vi 3)) else .ret (.agg [.sl (nats (digB P)), vi (vz P)]) := by
  rcases Nat.eq_zero_or_pos P with rfl | h
  · rw [placeRes, Nat.zero_mul, if_pos rfl, digB_zero, vz_zero]; rfl
  · have h1 : P * 60 ^ 72 ≠ 0 := Nat.mul_ne_zero (by omega) (by decide)
    have h2 := vz_lt h hP
    rw [placeRes, if_neg h1, digB_shift, vz_shift h]
    have e : ((vz P + 72 : Nat) : Int) - 72 = (vz P : Int) := by omega
    rw [e]
    by_cases hl : 16 < (digB P).length
    · rw [if_pos hl, if_pos (.inl hl)]
    · rw [if_neg hl, if_neg (by omega)]
theorem P79 (a b : List Nat) (ha : ∀ d ∈ a, d < 60) (hb : ∀ d ∈ b, d < 60) (la : a.length ≤ 16) (lb : b.length ≤ 16) (o1 oM : Go.Ev.Rows)
    (hA : (⟨oM, []⟩ : Mem).row ⟨0, 2, 0, 1⟩ = some ⟨1, 22, false, false, [.sl (nats a)]⟩) (hB : (⟨oM, []⟩ : Mem).row ⟨0, 3, 0, 1⟩ = some ⟨1, 22, false, false, [.sl (nats b)]⟩) :
    AnsAt X 79 [.ptr ⟨0, 2, 0, 1⟩ 0 0, .ptr ⟨0, 3, 0, 1⟩ 0 0] [o1, oM] (if 16 < (digB (numL a.reverse * numL b.reverse)).length then .panic (.ifc 23 (vi 3)) else .ret (.sl (nats (digB (numL a.reverse * numL b.reverse))))) := by
  refine ⟨rfl, rfl, fun v hv => by split at hv; · cases hv
                                   · injection hv with hv; subst hv; rfl, ?_⟩
  refine runsAt_of (X := X) (fn := Tryd.f79) Tryd.func79 rfl ⟨by decide +kernel, Nat.le_of_ble_eq_true rfl⟩ ?_
  have hd : (enter [V.ptr ⟨0, 2, 0, 1⟩ 0 0, V.ptr ⟨0, 3, 0, 1⟩ 0 0] [o1, oM]).dfs = [] := rfl
  have h0 : (enter [V.ptr ⟨0, 2, 0, 1⟩ 0 0, V.ptr ⟨0, 3, 0, 1⟩ 0 0] [o1, oM]).t.get 0 = .ptr ⟨0, 2, 0, 1⟩ 0 0 := rfl
  have h1 : (enter [V.ptr ⟨0, 2, 0, 1⟩ 0 0, V.ptr ⟨0, 3, 0, 1⟩ 0 0] [o1, oM]).t.get 1 = .ptr ⟨0, 3, 0, 1⟩ 0 0 := rfl
  have hm : (enter [V.ptr ⟨0, 2, 0, 1⟩ 0 0, V.ptr ⟨0, 3, 0, 1⟩ 0 0] [o1, oM]).m = ⟨.nil, [o1, oM]⟩ := rfl
  generalize enter [V.ptr ⟨0, 2, 0, 1⟩ 0 0, V.ptr ⟨0, 3, 0, 1⟩ 0 0] [o1, oM] = s at *
  have hA' : (⟨.nil, [o1, oM]⟩ : Mem).row ⟨0, 2, 0, 1⟩ = some ⟨1, 22, false, false, [.sl (nats a)]⟩ := by rw [row_outer _ _ _ _ (by simp), row_outer _ _ _ _ (by simp), hA]
  have hB' : (⟨.nil, [o1, oM]⟩ : Mem).row ⟨0, 3, 0, 1⟩ = some ⟨1, 22, false, false, [.sl (nats b)]⟩ := by rw [row_outer _ _ _ _ (by simp), row_outer _ _ _ _ (by simp), hB]
  have hp : numL a.reverse * numL b.reverse < 60 ^ 32 := by
    have h1 := num_lt (l := a.reverse) (fun d hd => ha d (List.mem_reverse.1 hd))
    have h2 := num_lt (l := b.reverse) (fun d hd => hb d (List.mem_reverse.1 hd))
    rw [List.length_reverse] at h1 h2
    rw [show (60 : Nat) ^ 32 = 60 ^ 16 * 60 ^ 16 by decide]
    exact Nat.mul_lt_mul'' (lt_pow_mono h1 la) (lt_pow_mono h2 lb)
  have q1 := P80 a b ha hb la lb
  have q2 := P81 (numL a.reverse * numL b.reverse * 60 ^ 72) (by
    calc numL a.reverse * numL b.reverse * 60 ^ 72 < 60 ^ 32 * 60 ^ 72 := Nat.mul_lt_mul_of_pos_right hp (by decide)
      _ ≤ 60 ^ 168 := by decide)
  rw [placeRes_mul hp] at q2
  by_cases hl : 16 < (digB (numL a.reverse * numL b.reverse)).length
  · rw [if_pos hl] at q2 ⊢
    refine gPAW (aI @h0 <|aI @h1 <|aI @hm <|aI @hA' <|aI @hB' <|aI @co80 <|aI @co81 <|aI @sr80 <|aI @sr81 <|aI @q1.iffx <|@q2.panicsx) ?_
    exact fin_panic hd rfl rfl
  · rw [if_neg hl] at q2 ⊢
    refine gPAW (aI @h0 <|aI @h1 <|aI @hm <|aI @hA' <|aI @hB' <|aI @co80 <|aI @co81 <|aI @sr80 <|aI @sr81 <|aI @q1.iffx <|@q2.iffx) ?_
    refine fin_ret (X := X) (fn := Tryd.f79) (vs := [.sl (nats (digB (numL a.reverse * numL b.reverse)))]) hd ?_ rfl rfl
    simp (maxSteps := 2000000) (disch := omega) only [SA, ofValue, ofCell, bin, intBin, un, idx, Go.Ev.builtin, calleeOf, V.isNilS, V.depthOk, depth1, V.ok1, V.isAgg, V.cells, isConst, Nat.reduceBEq, Nat.reduceEqDiff, ↓reduceIte, Nat.reduceLeDiff, Nat.reduceAdd, Nat.reduceMul, Nat.reduceSub, Nat.reduceLT, Int.reduceAdd, Int.reduceSub, Int.reduceMul, Int.reduceLT, Int.reduceLE, Int.reduceToNat, Int.reduceNeg, reduceIte, reduceCtorEq, SPx, Tryd.results79, resVars, resVar]
end Go.Proofs.YtpocekfifokndaaDoor
namespace Go.Proofs.YtpocekfifokndaaDoor
open Go Go.Ev Go.Pl
set_option maxRecDepth 100000
set_option maxHeartbeats 4000000
theorem D132n (own oM : Go.Ev.Rows) : ∃ k, evD X k 132 [.ptr ⟨1, 4, 0, 1⟩ 0 0, .ptr ⟨1, 5, 0, 1⟩ 0 0] [own, oM] none = some [own, oM] := by
  refine evD_of (X := X) (fn := Tryd.f132) Tryd.func132 rfl rfl ⟨by decide +kernel, Nat.le_of_ble_eq_true rfl, rfl, co132⟩ rfl ?_
  have hm : (enter [V.ptr ⟨1, 4, 0, 1⟩ 0 0, V.ptr ⟨1, 5, 0, 1⟩ 0 0] [own, oM]).m = ⟨.nil, [own, oM]⟩ := rfl
  have hd : (enter [V.ptr ⟨1, 4, 0, 1⟩ 0 0, V.ptr ⟨1, 5, 0, 1⟩ 0 0] [own, oM]).dfs = [] := rfl
  generalize enter [V.ptr ⟨1, 4, 0, 1⟩ 0 0, V.ptr ⟨1, 5, 0, 1⟩ 0 0] [own, oM] = s at *
  refine WL_k ?_
  intro K hK
  simp (maxSteps := 2000000) (disch := omega) only [SA, ofValue, ofCell, bin, intBin, un, idx, Go.Ev.builtin, calleeOf, V.isNilS, V.depthOk, depth1, V.ok1, V.isAgg, V.cells, isConst, Nat.reduceBEq, Nat.reduceEqDiff, ↓reduceIte, Nat.reduceLeDiff, Nat.reduceAdd, Nat.reduceMul, Nat.reduceSub, Nat.reduceLT, Int.reduceAdd, Int.reduceSub, Int.reduceMul, Int.reduceLT, Int.reduceLE, Int.reduceToNat, Int.reduceNeg, reduceIte, reduceCtorEq, SPx, hm]
  refine hK _ _ ⟨rfl, ?_⟩
  clear hK K
  repeat (first
    | with_reducible first | refine W_seq ?_ | refine W_skip ?_ | refine W_label ?_ | refine W_ret ?_ | refine W_exit ?_ | refine W_block ?_ | refine thenI ?_ | refine thenRet ?_ | refine thenExit ?_ | refine blockRet ?_ | refine blockI ?_ | refine blockExit ?_ | refine blockExitNe rfl ?_
    | (with_reducible refine W_region_k ?_
       intro K hK
       simp (maxSteps := 2000000) (disch := omega) only [SA, ofValue, ofCell, bin, intBin, un, idx, Go.Ev.builtin, calleeOf, V.isNilS, V.depthOk, depth1, V.ok1, V.isAgg, V.cells, isConst, Nat.reduceBEq, Nat.reduceEqDiff, ↓reduceIte, Nat.reduceLeDiff, Nat.reduceAdd, Nat.reduceMul, Nat.reduceSub, Nat.reduceLT, Int.reduceAdd, Int.reduceSub, Int.reduceMul, Int.reduceLT, Int.reduceLE, Int.reduceToNat, Int.reduceNeg, reduceIte, reduceCtorEq, SPx, bin, eqOk, eqT, isConst, Bool.or_true, Option.map_some]
       refine hK _ _ ?_
       clear hK K)
  )
  refine cnd (fun h => ?_) (fun h => ?_)
  · simp at h
  · refine gP @Nat.zero_add ?_
    exact ⟨.inl rfl, by simp [hd], rfl⟩
theorem D132p (own oM : Go.Ev.Rows) (k : Int) (x4 x5 : V) (h4 : (⟨own, [oM]⟩ : Mem).row ⟨1, 4, 0, 1⟩ = some ⟨1, 22, false, false, [x4]⟩) (h5 : (⟨own, [oM]⟩ : Mem).row ⟨1, 5, 0, 1⟩ = some ⟨1, 23, false, false, [x5]⟩) :
    ∃ j, evD X j 132 [.ptr ⟨1, 4, 0, 1⟩ 0 0, .ptr ⟨1, 5, 0, 1⟩ 0 0] [own, oM] (some (.ifc 23 (vi k))) =
      some [((own.upd 4 500 ⟨(own.get 4 500).g + 1, 0, true, false, []⟩).upd 4 0 ⟨1, 22, false, false, [.rs ⟨1, 4, 500, (own.get 4 500).g + 1⟩ 0 0 0]⟩).upd 5 0 ⟨1, 23, false, false, [vi k]⟩, oM] := by
  refine evD_of (X := X) (fn := Tryd.f132) Tryd.func132 rfl rfl ⟨by decide +kernel, Nat.le_of_ble_eq_true rfl, rfl, co132⟩ rfl ?_
  have hm : (enter [V.ptr ⟨1, 4, 0, 1⟩ 0 0, V.ptr ⟨1, 5, 0, 1⟩ 0 0] [own, oM]).m = ⟨.nil, [own, oM]⟩ := rfl
  have hd : (enter [V.ptr ⟨1, 4, 0, 1⟩ 0 0, V.ptr ⟨1, 5, 0, 1⟩ 0 0] [own, oM]).dfs = [] := rfl
  have t0 : (enter [V.ptr ⟨1, 4, 0, 1⟩ 0 0, V.ptr ⟨1, 5, 0, 1⟩ 0 0] [own, oM]).t.get 0 = .ptr ⟨1, 4, 0, 1⟩ 0 0 := rfl
  have t1 : (enter [V.ptr ⟨1, 4, 0, 1⟩ 0 0, V.ptr ⟨1, 5, 0, 1⟩ 0 0] [own, oM]).t.get 1 = .ptr ⟨1, 5, 0, 1⟩ 0 0 := rfl
  generalize enter [V.ptr ⟨1, 4, 0, 1⟩ 0 0, V.ptr ⟨1, 5, 0, 1⟩ 0 0] [own, oM] = s at *
  have h4' : (⟨.nil, [own, oM]⟩ : Mem).row ⟨1, 4, 0, 1⟩ = some ⟨1, 22, false, false, [x4]⟩ := by rw [row_outer _ _ _ _ (by simp), h4]
  have h5' : (⟨.nil, [own, oM]⟩ : Mem).row ⟨1, 5, 0, 1⟩ = some ⟨1, 23, false, false, [x5]⟩ := by rw [row_outer _ _ _ _ (by simp), h5]
  refine WL_k ?_
  intro K hK
  simp (maxSteps := 2000000) (disch := omega) only [SA, ofValue, ofCell, bin, intBin, un, idx, Go.Ev.builtin, calleeOf, V.isNilS, V.depthOk, depth1, V.ok1, V.isAgg, V.cells, isConst, Nat.reduceBEq, Nat.reduceEqDiff, ↓reduceIte, Nat.reduceLeDiff, Nat.reduceAdd, Nat.reduceMul, Nat.reduceSub, Nat.reduceLT, Int.reduceAdd, Int.reduceSub, Int.reduceMul, Int.reduceLT, Int.reduceLE, Int.reduceToNat, Int.reduceNeg, reduceIte, reduceCtorEq, SPx, hm]
  refine hK _ _ ⟨rfl, ?_⟩
  clear hK K
  repeat (first
    | with_reducible first | refine W_seq ?_ | refine W_skip ?_ | refine W_label ?_ | refine W_ret ?_ | refine W_exit ?_ | refine W_block ?_ | refine thenI ?_ | refine thenRet ?_ | refine thenExit ?_ | refine blockRet ?_ | refine blockI ?_ | refine blockExit ?_ | refine blockExitNe rfl ?_
    | (with_reducible refine W_region_k ?_
       intro K hK
       simp (maxSteps := 2000000) (disch := omega) only [SA, ofValue, ofCell, bin, intBin, un, idx, Go.Ev.builtin, calleeOf, V.isNilS, V.depthOk, depth1, V.ok1, V.isAgg, V.cells, isConst, Nat.reduceBEq, Nat.reduceEqDiff, ↓reduceIte, Nat.reduceLeDiff, Nat.reduceAdd, Nat.reduceMul, Nat.reduceSub, Nat.reduceLT, Int.reduceAdd, Int.reduceSub, Int.reduceMul, Int.reduceLT, Int.reduceLE, Int.reduceToNat, Int.reduceNeg, reduceIte, reduceCtorEq, SPx, bin, eqOk, eqT, isConst, Bool.or_true, Option.map_some]
       refine hK _ _ ?_
       clear hK K)
  )
  refine cnd (fun h => ?_) (fun h => ?_)
  · refine gPAS (aI @t0 <|aI @t1 <|aI @h4' <|aI @h5' <|aI @co133 <|aI @sr133 <|aI ((P133 k).iffx) <|aI @Mem.rows_new <|@Mem.rows_lit) ?_
    refine ⟨.inl rfl, by simp [hd], ?_⟩
    simp [Mem.new, Mem.set, outSet]
  · simp at h
theorem fin77 {oM : Go.Ev.Rows} {s : St} {es : List Nat} {k : Int} (hd : s.dfs = [(132, [.ptr ⟨1, 4, 0, 1⟩ 0 0, .ptr ⟨1, 5, 0, 1⟩ 0 0])]) (ho : s.m.out = [oM]) (h4 : s.t.get 4 = .ptr ⟨1, 4, 0, 1⟩ 0 0) (h5 : s.t.get 5 = .ptr ⟨1, 5, 0, 1⟩ 0 0)
    (r4 : s.m.row ⟨1, 4, 0, 1⟩ = some ⟨1, 22, false, false, [.sl (nats es)]⟩) (r5 : s.m.row ⟨1, 5, 0, 1⟩ = some ⟨1, 23, false, false, [vi k]⟩) :
    finQ X Tryd.f77 (.ret (.tup [.sl (nats es), vi k]), [oM]) .ret s := by
  obtain ⟨t, ⟨own, out⟩, dfs⟩ := s
  dsimp only at hd ho h4 h5 r4 r5
  subst ho
  refine fin_ret1 (own := own) (vs := [.sl (nats es), vi k]) hd (D132n own oM) ?_ rfl rfl
  simp (maxSteps := 2000000) (disch := omega) only [SA, ofValue, ofCell, bin, intBin, un, idx, Go.Ev.builtin, calleeOf, V.isNilS, V.depthOk, depth1, V.ok1, V.isAgg, V.cells, isConst, Nat.reduceBEq, Nat.reduceEqDiff, ↓reduceIte, Nat.reduceLeDiff, Nat.reduceAdd, Nat.reduceMul, Nat.reduceSub, Nat.reduceLT, Int.reduceAdd, Int.reduceSub, Int.reduceMul, Int.reduceLT, Int.reduceLE, Int.reduceToNat, Int.reduceNeg, reduceIte, reduceCtorEq, SPx, Tryd.results77, resVars, resVar, h4, h5, r4, r5]
theorem fin77p {oM : Go.Ev.Rows} {s : St} {x4 x5 : V} {k : Int} (hd : s.dfs = [(132, [.ptr ⟨1, 4, 0, 1⟩ 0 0, .ptr ⟨1, 5, 0, 1⟩ 0 0])]) (ho : s.m.out = [oM]) (h4 : s.t.get 4 = .ptr ⟨1, 4, 0, 1⟩ 0 0) (h5 : s.t.get 5 = .ptr ⟨1, 5, 0, 1⟩ 0 0)
    (r4 : s.m.row ⟨1, 4, 0, 1⟩ = some ⟨1, 22, false, false, [x4]⟩) (r5 : s.m.row ⟨1, 5, 0, 1⟩ = some ⟨1, 23, false, false, [x5]⟩) :
    finQ X Tryd.f77 (.ret (.tup [.sl [], vi k]), [oM]) (.panic (.ifc 23 (vi k))) s := by
  obtain ⟨t, ⟨own, out⟩, dfs⟩ := s
  dsimp only at hd ho h4 h5 r4 r5
  subst ho
  refine fin_panic1 (vs := [.rs ⟨1, 4, 500, (own.get 4 500).g + 1⟩ 0 0 0, vi k]) hd (D132p own oM k x4 x5 r4 r5) ?_ ?_ ?_
  · rw [← set_own _ [oM] 1 5 0 _ rfl, ← set_own _ [oM] 1 4 0 _ rfl, ← set_own _ [oM] 1 4 500 _ rfl]
    simp (maxSteps := 2000000) (disch := omega) only [SA, ofValue, ofCell, bin, intBin, un, idx, Go.Ev.builtin, calleeOf, V.isNilS, V.depthOk, depth1, V.ok1, V.isAgg, V.cells, isConst, Nat.reduceBEq, Nat.reduceEqDiff, ↓reduceIte, Nat.reduceLeDiff, Nat.reduceAdd, Nat.reduceMul, Nat.reduceSub, Nat.reduceLT, Int.reduceAdd, Int.reduceSub, Int.reduceMul, Int.reduceLT, Int.reduceLE, Int.reduceToNat, Int.reduceNeg, reduceIte, reduceCtorEq, SPx, Tryd.results77, resVars, resVar, h4, h5, r4, r5]
  · rw [← set_own _ [oM] 1 5 0 _ rfl, ← set_own _ [oM] 1 4 0 _ rfl, ← set_own _ [oM] 1 4 500 _ rfl]
    simp (maxSteps := 2000000) (disch := omega) only [SA, ofValue, ofCell, bin, intBin, un, idx, Go.Ev.builtin, calleeOf, V.isNilS, V.depthOk, depth1, V.ok1, V.isAgg, V.cells, isConst, Nat.reduceBEq, Nat.reduceEqDiff, ↓reduceIte, Nat.reduceLeDiff, Nat.reduceAdd, Nat.reduceMul, Nat.reduceSub, Nat.reduceLT, Int.reduceAdd, Int.reduceSub, Int.reduceMul, Int.reduceLT, Int.reduceLE, Int.reduceToNat, Int.reduceNeg, reduceIte, reduceCtorEq, SPx, SAx, resOf, X_own, mv_tup, mv2s_cons, mv2s_nil, mv2_int, cut, List.take_zero, List.drop_zero]
  · exact frzR_own (fun r ty off len hm => by
      simp [resOf, leaves, leaves2] at hm
      rw [hm.1]; rfl)
theorem M77 (g : FuncId) (cap : List V) (oM : Go.Ev.Rows) (r : Res) (hcap : cap.any V.loose = true) (hco : callOk Tryd.prog g = true) (hsr : scalarRes Tryd.prog g = false) (hg : ∀ own, AnsAt X g cap [own, oM] r)
    (R : Res) (hR : (∃ es, r = .ret (.sl (nats es)) ∧ R = .ret (.tup [.sl (nats es), vi 0])) ∨ (∃ k, r = .panic (.ifc 23 (vi k)) ∧ R = .ret (.tup [.sl [], vi k]))) :
    AnsAt X 77 [vi 0, .fn g [] cap] [oM] R := by
  have hne : cap.isEmpty = false := by cases cap with | nil => simp at hcap | cons _ _ => rfl
  refine ⟨rfl, by simp [V.refs, V.loose, hne], fun v hv => ?_, ?_⟩
  · rcases hR with ⟨es, _, rfl⟩ | ⟨k, _, rfl⟩
    · injection hv with hv; subst hv; rfl
    · injection hv with hv; subst hv; rfl
  refine runsAt_of (X := X) (fn := Tryd.f77) Tryd.func77 rfl ⟨by decide +kernel, Nat.le_of_ble_eq_true rfl⟩ ?_
  have hd : (enter [vi 0, V.fn g [] cap] [oM]).dfs = [] := rfl
  have h0 : (enter [vi 0, V.fn g [] cap] [oM]).t.get 0 = vi 0 := rfl
  have h1 : (enter [vi 0, V.fn g [] cap] [oM]).t.get 1 = .fn g [] cap := rfl
  have hm : (enter [vi 0, V.fn g [] cap] [oM]).m = ⟨.nil, [oM]⟩ := rfl
  generalize enter [vi 0, V.fn g [] cap] [oM] = s at *
  refine gPA (aI @h0 <|aI @h1 <|@hm) ?_
  refine cnd (fun h => ?_) (fun h => ?_)
  · simp at h
  refine gPA (aI @h0 <|aI @h1 <|@hm) ?_
  have key : ∀ (m : Mem) (dst : Nat) (K KP : V → Mem → Prop), m.out = [oM] → CallQ X g cap m dst K KP = (match r with | .ret v => K v m | .panic v => KP v m) := by
    intro m dst K KP hmo
    have hh := hg m.own
    rw [← hmo] at hh
    cases r with
    | ret v => exact propext hh.iff
    | panic v => exact propext hh.panics
  with_reducible refine W_region_k ?_
  intro K hK
  simp (maxSteps := 2000000) (disch := omega) only [SA, ofValue, ofCell, bin, intBin, un, idx, Go.Ev.builtin, calleeOf, V.isNilS, V.depthOk, depth1, V.ok1, V.isAgg, V.cells, isConst, Nat.reduceBEq, Nat.reduceEqDiff, ↓reduceIte, Nat.reduceLeDiff, Nat.reduceAdd, Nat.reduceMul, Nat.reduceSub, Nat.reduceLT, Int.reduceAdd, Int.reduceSub, Int.reduceMul, Int.reduceLT, Int.reduceLE, Int.reduceToNat, Int.reduceNeg, reduceIte, reduceCtorEq, SPx, SAx, h0, h1, hm, hd, hco, hsr]
  rw [key _ _ _ _ rfl]
  rcases hR with ⟨es, rfl, rfl⟩ | ⟨k, rfl, rfl⟩
  · simp (maxSteps := 2000000) (disch := omega) only [SA, ofValue, ofCell, bin, intBin, un, idx, Go.Ev.builtin, calleeOf, V.isNilS, V.depthOk, depth1, V.ok1, V.isAgg, V.cells, isConst, Nat.reduceBEq, Nat.reduceEqDiff, ↓reduceIte, Nat.reduceLeDiff, Nat.reduceAdd, Nat.reduceMul, Nat.reduceSub, Nat.reduceLT, Int.reduceAdd, Int.reduceSub, Int.reduceMul, Int.reduceLT, Int.reduceLE, Int.reduceToNat, Int.reduceNeg, reduceIte, reduceCtorEq, SPx, SAx, SSx, appendTo, elemsOf]
    refine hK _ _ ?_
    clear hK K
    refine gP @Nat.zero_add ?_
    refine fin77 (es := es) (k := 0) ?_ ?_ ?_ ?_ ?_ ?_
    all_goals (try refine f0 @hd ?_);all_goals try exact True.intro
    all_goals first | rfl | simp [Mem.new, Mem.set]
  · simp (maxSteps := 2000000) (disch := omega) only [SA, ofValue, ofCell, bin, intBin, un, idx, Go.Ev.builtin, calleeOf, V.isNilS, V.depthOk, depth1, V.ok1, V.isAgg, V.cells, isConst, Nat.reduceBEq, Nat.reduceEqDiff, ↓reduceIte, Nat.reduceLeDiff, Nat.reduceAdd, Nat.reduceMul, Nat.reduceSub, Nat.reduceLT, Int.reduceAdd, Int.reduceSub, Int.reduceMul, Int.reduceLT, Int.reduceLE, Int.reduceToNat, Int.reduceNeg, reduceIte, reduceCtorEq, SPx, SAx, SSx, appendTo, elemsOf]
    refine hK _ _ ?_
    clear hK K
    refine gP @Nat.zero_add ?_
    refine fin77p (k := k) (x4 := .rs ⟨1, 4, 1, 1⟩ 0 0 0) (x5 := vi 0) ?_ ?_ ?_ ?_ ?_ ?_
    all_goals (try refine f0 @hd ?_);all_goals try exact True.intro
    all_goals first | rfl | simp [Mem.new, Mem.set]
theorem M77e (e : Int) (he : e ≠ 0) (g : FuncId) (cap : List V) (oM : Go.Ev.Rows) (hcap : cap.any V.loose = true) : AnsAt X 77 [vi e, .fn g [] cap] [oM] (.ret (.tup [.sl [], vi e])) := by
  have hne : cap.isEmpty = false := by cases cap with | nil => simp at hcap | cons _ _ => rfl
  refine ⟨rfl, by simp [V.refs, V.loose, hne], fun v hv => ?_, ?_⟩
  · injection hv with hv; subst hv; rfl
  refine runsAt_of (X := X) (fn := Tryd.f77) Tryd.func77 rfl ⟨by decide +kernel, Nat.le_of_ble_eq_true rfl⟩ ?_
  have hd : (enter [vi e, V.fn g [] cap] [oM]).dfs = [] := rfl
  have h0 : (enter [vi e, V.fn g [] cap] [oM]).t.get 0 = vi e := rfl
  have h1 : (enter [vi e, V.fn g [] cap] [oM]).t.get 1 = .fn g [] cap := rfl
  have hm : (enter [vi e, V.fn g [] cap] [oM]).m = ⟨.nil, [oM]⟩ := rfl
  generalize enter [vi e, V.fn g [] cap] [oM] = s at *
  refine gPA (aI @h0 <|aI @h1 <|@hm) ?_
  refine cnd (fun h => ?_) (fun h => ?_)
  · refine gPA (aI @h0 <|aI @h1 <|@hm) ?_
    refine fin_ret (X := X) (fn := Tryd.f77) (vs := [.rs ⟨1, 4, 1, 1⟩ 0 0 0, vi e]) hd ?_ ?_ ?_
    · simp (maxSteps := 2000000) (disch := omega) only [SA, ofValue, ofCell, bin, intBin, un, idx, Go.Ev.builtin, calleeOf, V.isNilS, V.depthOk, depth1, V.ok1, V.isAgg, V.cells, isConst, Nat.reduceBEq, Nat.reduceEqDiff, ↓reduceIte, Nat.reduceLeDiff, Nat.reduceAdd, Nat.reduceMul, Nat.reduceSub, Nat.reduceLT, Int.reduceAdd, Int.reduceSub, Int.reduceMul, Int.reduceLT, Int.reduceLE, Int.reduceToNat, Int.reduceNeg, reduceIte, reduceCtorEq, SPx, SAx, Tryd.results77, resVars, resVar]
    · simp (maxSteps := 2000000) (disch := omega) only [SA, ofValue, ofCell, bin, intBin, un, idx, Go.Ev.builtin, calleeOf, V.isNilS, V.depthOk, depth1, V.ok1, V.isAgg, V.cells, isConst, Nat.reduceBEq, Nat.reduceEqDiff, ↓reduceIte, Nat.reduceLeDiff, Nat.reduceAdd, Nat.reduceMul, Nat.reduceSub, Nat.reduceLT, Int.reduceAdd, Int.reduceSub, Int.reduceMul, Int.reduceLT, Int.reduceLE, Int.reduceToNat, Int.reduceNeg, reduceIte, reduceCtorEq, SPx, SAx, resOf, X_own, mv_tup, mv2s_cons, mv2s_nil, mv2_int, cut, List.take_zero, List.drop_zero]
    · refine (frzR_own (fun r ty off len hm => ?_)).trans ?_
      · simp [resOf, leaves, leaves2] at hm
        rw [hm.1]; rfl
      · rfl
  · exact absurd (by simpa using h) he
end Go.Proofs.YtpocekfifokndaaDoor
namespace Go.Proofs.YtpocekfifokndaaDoor
open Go Go.Ev Go.Pl
set_option maxRecDepth 100000
set_option maxHeartbeats 4000000
def chk (a : List Int) : Int :=
  if a.length > 16 then 3 else if a.any (fun d => decide (d < 0) || decide (60 ≤ d)) = true then 30 else
  if 0 < a.length ∧ (a[0]? = some 0 ∨ a[a.length - 1]? = some 0) then 5 else 0
theorem P28 (a : List Int) : Ans X 28 [.sl (ints a)] (.ret (vi (chk a))) := by
  refine call_of_X (fn := Tryd.f28) 1 Tryd.func28 rfl (by decide +kernel) rfl rfl (fun _ => rfl) (by rintro v ⟨⟩; rfl) ?_
  intro s hs hd ho
  have h0 : s.t.get 0 = .sl (ints a) := by subst hs; rfl
  clear hs
  refine gP (aI @h0 <|@ints_length) ?_
  with_reducible refine W_cond2 (by simp only [SO, ofValue, ofCell, Nat.reduceBEq, Nat.reduceEqDiff, ↓reduceIte, h0]; rfl) (fun h => ?_) (fun h => ?_)
  · refine gP (aI @h0 <|@ints_length) ?_
    have h := of_decide_eq_true h
    refine end_ret hd (by simp only [Tryd.results28, resVars, resVar, arr_toList, List.toList_toArray, Tm.get_set, Nat.reduceEqDiff, ↓reduceIte]; rfl) ?_
    simp only [resOf, X_own, mv_int, chk, vi]
    rw [if_pos (by omega)]
  refine gP (aI @h0 <|@ints_length) ?_
  have h := of_decide_eq_false h
  refine W_loopg (fun (k : Nat) s => s.dfs = [] ∧ s.t.get 0 = .sl (ints a) ∧ s.t.get 8 = .sl (ints a) ∧ s.t.get 9 = .int .i64 a.length ∧
    s.t.get 10 = .int .i64 k ∧ k ≤ a.length ∧ ∀ j d, j < k → a[j]? = some d → 0 ≤ d ∧ d < 60) (fun k => a.length - k) 0 ?_ ?_
  · refine ⟨hd, ?_, ?_, ?_, ?_, Nat.zero_le _, fun j d h => by omega⟩
    all_goals (try refine f0 @h0 ?_);all_goals try exact True.intro
    rfl
  clear hd h0 ho
  rintro k s ⟨hd, h0, h8, h9, h10, hk, hall⟩
  refine gP (aI @h0 <|aI @h8 <|aI @h9 <|aI @h10 <|@ints_length) ?_
  with_reducible refine W_cond2 (by simp only [SO, ofValue, ofCell, Nat.reduceBEq, Nat.reduceEqDiff, ↓reduceIte, h0]; rfl) (fun h => ?_) (fun h => ?_)
  · refine g0 @Nat.zero_add ?_
    have h := of_decide_eq_true h
    obtain ⟨d, hdk⟩ : ∃ d, a[k]? = some d := ⟨a[k]'(by omega), by simp⟩
    have hk0 : (0:Int) ≤ k := by omega
    have hfin : ∀ (bad : d < 0 ∨ 60 ≤ d), chk a = 30 := fun bad => by
      unfold chk
      rw [if_neg (by omega), if_pos]
      rw [List.any_eq_true]
      exact ⟨d, List.mem_of_getElem? hdk, by simpa using bad⟩
    by_cases hneg : d < 0
    · refine gP (aI @h0 <|aI @h8 <|aI @h9 <|aI @h10 <|aI @ints_length <|aI @ints_get? <|aI @hdk <|@hneg) ?_
      with_reducible refine W_cond2 (by simp only [SO, ofValue, ofCell, Nat.reduceBEq, Nat.reduceEqDiff, ↓reduceIte, hneg]; rfl) (fun h => ?_) (fun h => ?_)
      · refine g0 @Nat.zero_add ?_
        refine end_ret hd (by simp only [Tryd.results28, resVars, resVar, arr_toList, List.toList_toArray, Tm.get_set, Nat.reduceEqDiff, ↓reduceIte]; rfl) ?_
        simp only [resOf, X_own, mv_int, vi, hfin (.inl hneg)]
      · simp at h
    · refine gP (aI @h0 <|aI @h8 <|aI @h9 <|aI @h10 <|aI @ints_length <|aI @ints_get? <|aI @hdk <|@hneg) ?_
      with_reducible refine W_cond2 (by simp only [SO, ofValue, ofCell, Nat.reduceBEq, Nat.reduceEqDiff, ↓reduceIte, hneg]; rfl) (fun h => ?_) (fun h => ?_)
      · have h := of_decide_eq_true h
        refine g0 @Nat.zero_add ?_
        refine end_ret hd (by simp only [Tryd.results28, resVars, resVar, arr_toList, List.toList_toArray, Tm.get_set, Nat.reduceEqDiff, ↓reduceIte]; rfl) ?_
        simp only [resOf, X_own, mv_int, vi, hfin (.inr h)]
      · have h := of_decide_eq_false h
        refine gP (aI @h0 <|aI @h8 <|aI @h9 <|aI @h10 <|@wr_i64) ?_
        refine ⟨k + 1, ⟨hd, ?_, ?_, ?_, ?_, by omega, ?_⟩, by omega⟩
        all_goals (try refine f0 (aI @h0 <|aI @h8 <|@h9) ?_);all_goals try exact True.intro
        · simp
        · intro j d' hj hd'
          rcases Nat.lt_or_ge j k with hjk | hjk
          · exact hall j d' hjk hd'
          · obtain rfl : j = k := by omega
            rw [hdk] at hd'; obtain rfl := Option.some.inj hd'; omega
  · have h := of_decide_eq_false h
    refine g0 @Nat.zero_add ?_
    have hk : k = a.length := by omega
    subst hk
    have hno : ¬ (a.any (fun d => decide (d < 0) || decide (60 ≤ d)) = true) := by
      rw [List.any_eq_true]
      rintro ⟨d, hm, hb⟩
      obtain ⟨j, hj, e⟩ := List.mem_iff_getElem.1 hm
      have := hall j d hj (by rw [List.getElem?_eq_getElem hj, e])
      simp at hb; omega
    rcases Nat.eq_zero_or_pos a.length with hz | hz
    · refine gP (aI @h0 <|aI @ints_length <|aI @hz <|aI @Int.natCast_zero <|aI @gt_iff_lt.{0} <|@Int.lt_irrefl) ?_
      with_reducible refine W_cond2 (by simp only [SO, ofValue, ofCell, Nat.reduceBEq, Nat.reduceEqDiff, ↓reduceIte, h0]; rfl) (fun h => ?_) (fun h => ?_)
      · simp at h
      · refine g0 @Nat.zero_add ?_
        refine end_ret hd (by simp only [Tryd.results28, resVars, resVar, arr_toList, List.toList_toArray, Tm.get_set, Nat.reduceEqDiff, ↓reduceIte]; rfl) ?_
        simp only [resOf, X_own, mv_int, vi, chk]
        rw [if_neg (by omega), if_neg hno, if_neg (by omega)]
    · obtain ⟨d0, hd0⟩ : ∃ d, a[0]? = some d := ⟨a[0]'(by omega), by simp⟩
      obtain ⟨d1, hd1⟩ : ∃ d, a[a.length - 1]? = some d := ⟨a[a.length - 1]'(by omega), by simp⟩
      have hz' : (0 : Int) < a.length := by omega
      have hc : ((a.length : Int) - 1).toNat = a.length - 1 := by omega
      have hc' : (0 : Int) ≤ a.length - 1 := by omega
      by_cases e0 : d0 = 0
      · refine gP (aI @h0 <|aI @ints_length <|aI @ints_get? <|aI @hd0 <|aI @e0 <|aI @hz' <|@gt_iff_lt.{0}) ?_
        with_reducible refine W_cond2 (by simp only [SO, ofValue, ofCell, Nat.reduceBEq, Nat.reduceEqDiff, ↓reduceIte, h0]; rfl) (fun h => ?_) (fun h => ?_)
        · refine g0 @Nat.zero_add ?_
          refine end_ret hd (by simp only [Tryd.results28, resVars, resVar, arr_toList, List.toList_toArray, Tm.get_set, Nat.reduceEqDiff, ↓reduceIte]; rfl) ?_
          simp only [resOf, X_own, mv_int, vi, chk]
          rw [if_neg (by omega), if_neg hno, if_pos ⟨hz, .inl (by rw [hd0, e0])⟩]
        · simp at h
      · refine gP (aI @h0 <|aI @ints_length <|aI @ints_get? <|aI @hd0 <|aI @hd1 <|aI @e0 <|aI @hz' <|aI @gt_iff_lt.{0} <|aI (beq_eq_false_iff_ne.2 e0) <|aI @wr_i64 <|aI @hc <|@hc') ?_
        with_reducible refine W_cond2 (by simp only [SO, ofValue, ofCell, Nat.reduceBEq, Nat.reduceEqDiff, ↓reduceIte, h0]; rfl) (fun h => ?_) (fun h => ?_)
        · refine g0 @Nat.zero_add ?_
          refine end_ret hd (by simp only [Tryd.results28, resVars, resVar, arr_toList, List.toList_toArray, Tm.get_set, Nat.reduceEqDiff, ↓reduceIte]; rfl) ?_
          simp only [resOf, X_own, mv_int, vi, chk]
          have h := eq_of_beq h
          rw [if_neg (by omega), if_neg hno, if_pos ⟨hz, .inr (by rw [hd1, h])⟩]
        · refine g0 @Nat.zero_add ?_
          refine end_ret hd (by simp only [Tryd.results28, resVars, resVar, arr_toList, List.toList_toArray, Tm.get_set, Nat.reduceEqDiff, ↓reduceIte]; rfl) ?_
          simp only [resOf, X_own, mv_int, vi, chk]
          have h := ne_of_beq_false h
          rw [if_neg (by omega), if_neg hno, if_neg]
          rintro ⟨_, h2 | h2⟩
          · rw [hd0] at h2; exact e0 (Option.some.inj h2)
          · rw [hd1] at h2; exact h (Option.some.inj h2)
end Go.Proofs.YtpocekfifokndaaDoor
namespace Go.Proofs.YtpocekfifokndaaDoor
open Go Go.Ev Go.Pl
set_option maxRecDepth 100000
set_option maxHeartbeats 4000000
theorem P74 (a : List Int) : Ans X 74 [.sl (ints a)] (.ret (vi (chk a))) := by
  refine call_of_X (fn := Tryd.f74) 1 Tryd.func74 rfl (by decide +kernel) rfl rfl (fun _ => rfl) (by rintro v ⟨⟩; rfl) ?_
  intro s hs hd ho
  have h0 : s.t.get 0 = .sl (ints a) := by subst hs; rfl
  clear hs
  refine gP (aI @h0 <|@ints_length) ?_
  with_reducible refine W_cond2 (by simp only [SO, ofValue, ofCell, Nat.reduceBEq, Nat.reduceEqDiff, ↓reduceIte, h0]; rfl) (fun h => ?_) (fun h => ?_)
  · refine gP (aI @h0 <|@ints_length) ?_
    have h := of_decide_eq_true h
    refine end_ret hd (by simp only [Tryd.results74, resVars, resVar, arr_toList, List.toList_toArray, Tm.get_set, Nat.reduceEqDiff, ↓reduceIte]; rfl) ?_
    simp only [resOf, X_own, mv_int, chk, vi]
    rw [if_pos (by omega)]
  refine gP (aI @h0 <|@ints_length) ?_
  have h := of_decide_eq_false h
  refine W_loopg (fun (k : Nat) s => s.dfs = [] ∧ s.t.get 0 = .sl (ints a) ∧ s.t.get 3 = vn k ∧ k ≤ a.length ∧ ∀ j d, j < k → a[j]? = some d → 0 ≤ d ∧ d < 60) (fun k => a.length - k) 0 ?_ ?_
  · refine ⟨hd, ?_, ?_, Nat.zero_le _, fun j d h => by omega⟩
    all_goals (try refine f0 @h0 ?_);all_goals try exact True.intro
    rfl
  clear hd h0 ho
  rintro k s ⟨hd, h0, h3, hk, hall⟩
  refine gP (aI @h0 <|aI @h3 <|@ints_length) ?_
  with_reducible refine W_cond2 (by simp only [SO, ofValue, ofCell, Nat.reduceBEq, Nat.reduceEqDiff, ↓reduceIte, h0]; rfl) (fun h => ?_) (fun h => ?_)
  · refine g0 @Nat.zero_add ?_
    have h := of_decide_eq_true h
    obtain ⟨d, hdk⟩ : ∃ d, a[k]? = some d := ⟨a[k]'(by omega), by simp⟩
    have hk0 : (0:Int) ≤ k := by omega
    have hfin : ∀ (bad : d < 0 ∨ 60 ≤ d), chk a = 30 := fun bad => by
      unfold chk
      rw [if_neg (by omega), if_pos]
      rw [List.any_eq_true]
      exact ⟨d, List.mem_of_getElem? hdk, by simpa using bad⟩
    by_cases hneg : d < 0
    · refine gP (aI @h0 <|aI @h3 <|aI @ints_length <|aI @ints_get? <|aI @hdk <|@hneg) ?_
      with_reducible refine W_cond2 (by simp only [SO, ofValue, ofCell, Nat.reduceBEq, Nat.reduceEqDiff, ↓reduceIte, hneg]; rfl) (fun h => ?_) (fun h => ?_)
      · refine g0 @Nat.zero_add ?_
        refine end_ret hd (by simp only [Tryd.results74, resVars, resVar, arr_toList, List.toList_toArray, Tm.get_set, Nat.reduceEqDiff, ↓reduceIte]; rfl) ?_
        simp only [resOf, X_own, mv_int, vi, hfin (.inl hneg)]
      · simp at h
    · refine gP (aI @h0 <|aI @h3 <|aI @ints_length <|aI @ints_get? <|aI @hdk <|@hneg) ?_
      with_reducible refine W_cond2 (by simp only [SO, ofValue, ofCell, Nat.reduceBEq, Nat.reduceEqDiff, ↓reduceIte, hneg]; rfl) (fun h => ?_) (fun h => ?_)
      · have h := of_decide_eq_true h
        refine g0 @Nat.zero_add ?_
        refine end_ret hd (by simp only [Tryd.results74, resVars, resVar, arr_toList, List.toList_toArray, Tm.get_set, Nat.reduceEqDiff, ↓reduceIte]; rfl) ?_
        simp only [resOf, X_own, mv_int, vi, hfin (.inr h)]
      · have h := of_decide_eq_false h
        refine gP (aI @h0 <|aI @h3 <|@wr_i64) ?_
        refine ⟨k + 1, ⟨hd, ?_, ?_, by omega, ?_⟩, by omega⟩
        all_goals (try refine f0 @h0 ?_);all_goals try exact True.intro
        · simp
        · intro j d' hj hd'
          rcases Nat.lt_or_ge j k with hjk | hjk
          · exact hall j d' hjk hd'
          · obtain rfl : j = k := by omega
            rw [hdk] at hd'; obtain rfl := Option.some.inj hd'; omega
  · have h := of_decide_eq_false h
    refine g0 @Nat.zero_add ?_
    have hk : k = a.length := by omega
    subst hk
    have hno : ¬ (a.any (fun d => decide (d < 0) || decide (60 ≤ d)) = true) := by
      rw [List.any_eq_true]
      rintro ⟨d, hm, hb⟩
      obtain ⟨j, hj, e⟩ := List.mem_iff_getElem.1 hm
      have := hall j d hj (by rw [List.getElem?_eq_getElem hj, e])
      simp at hb; omega
    rcases Nat.eq_zero_or_pos a.length with hz | hz
    · refine gP (aI @h0 <|aI @ints_length <|aI @hz <|aI @Int.natCast_zero <|aI @gt_iff_lt.{0} <|@Int.lt_irrefl) ?_
      with_reducible refine W_cond2 (by simp only [SO, ofValue, ofCell, Nat.reduceBEq, Nat.reduceEqDiff, ↓reduceIte, h0]; rfl) (fun h => ?_) (fun h => ?_)
      · simp at h
      · refine g0 @Nat.zero_add ?_
        refine end_ret hd (by simp only [Tryd.results74, resVars, resVar, arr_toList, List.toList_toArray, Tm.get_set, Nat.reduceEqDiff, ↓reduceIte]; rfl) ?_
        simp only [resOf, X_own, mv_int, vi, chk]
        rw [if_neg (by omega), if_neg hno, if_neg (by omega)]
    · obtain ⟨d0, hd0⟩ : ∃ d, a[0]? = some d := ⟨a[0]'(by omega), by simp⟩
      obtain ⟨d1, hd1⟩ : ∃ d, a[a.length - 1]? = some d := ⟨a[a.length - 1]'(by omega), by simp⟩
      have hz' : (0 : Int) < a.length := by omega
      have hc : ((a.length : Int) - 1).toNat = a.length - 1 := by omega
      have hc' : (0 : Int) ≤ a.length - 1 := by omega
      by_cases e0 : d0 = 0
      · refine gP (aI @h0 <|aI @ints_length <|aI @ints_get? <|aI @hd0 <|aI @e0 <|aI @hz' <|@gt_iff_lt.{0}) ?_
        with_reducible refine W_cond2 (by simp only [SO, ofValue, ofCell, Nat.reduceBEq, Nat.reduceEqDiff, ↓reduceIte, h0]; rfl) (fun h => ?_) (fun h => ?_)
        · refine g0 @Nat.zero_add ?_
          refine end_ret hd (by simp only [Tryd.results74, resVars, resVar, arr_toList, List.toList_toArray, Tm.get_set, Nat.reduceEqDiff, ↓reduceIte]; rfl) ?_
          simp only [resOf, X_own, mv_int, vi, chk]
          rw [if_neg (by omega), if_neg hno, if_pos ⟨hz, .inl (by rw [hd0, e0])⟩]
        · simp at h
      · refine gP (aI @h0 <|aI @ints_length <|aI @ints_get? <|aI @hd0 <|aI @hd1 <|aI @e0 <|aI @hz' <|aI @gt_iff_lt.{0} <|aI (beq_eq_false_iff_ne.2 e0) <|aI @wr_i64 <|aI @hc <|@hc') ?_
        with_reducible refine W_cond2 (by simp only [SO, ofValue, ofCell, Nat.reduceBEq, Nat.reduceEqDiff, ↓reduceIte, h0]; rfl) (fun h => ?_) (fun h => ?_)
        · refine g0 @Nat.zero_add ?_
          refine end_ret hd (by simp only [Tryd.results74, resVars, resVar, arr_toList, List.toList_toArray, Tm.get_set, Nat.reduceEqDiff, ↓reduceIte]; rfl) ?_
          simp only [resOf, X_own, mv_int, vi, chk]
          have h := eq_of_beq h
          rw [if_neg (by omega), if_neg hno, if_pos ⟨hz, .inr (by rw [hd1, h])⟩]
        · refine g0 @Nat.zero_add ?_
          refine end_ret hd (by simp only [Tryd.results74, resVars, resVar, arr_toList, List.toList_toArray, Tm.get_set, Nat.reduceEqDiff, ↓reduceIte]; rfl) ?_
          simp only [resOf, X_own, mv_int, vi, chk]
          have h := ne_of_beq_false h
          rw [if_neg (by omega), if_neg hno, if_neg]
          rintro ⟨_, h2 | h2⟩
          · rw [hd0] at h2; exact e0 (Option.some.inj h2)
          · rw [hd1] at h2; exact h (Option.some.inj h2)
end Go.Proofs.YtpocekfifokndaaDoor
namespace Go.Proofs.YtpocekfifokndaaDoor
open Go Go.Ev Go.Pl
set_option maxRecDepth 100000
set_option maxHeartbeats 4000000
def chk2 (a b : List Int) : Int := if chk a = 0 then chk b else chk a
theorem P78 (a b : List Int) : Ans X 78 [.sl (ints a), .sl (ints b)] (.ret (vi (chk2 a b))) := by
  refine call_of_X (fn := Tryd.f78) 2 Tryd.func78 rfl (by decide +kernel) rfl ?_ ?_ ?_ ?_
  · rfl
  · exact fun _ => rfl
  · intro v hv; injection hv with hv; subst hv; rfl
  intro s hs hd ho
  have h0 : s.t.get 0 = .sl (ints a) := by subst hs; rfl
  have h1 : s.t.get 1 = .sl (ints b) := by subst hs; rfl
  clear hs
  refine gP (aI @h0 <|aI @h1 <|aI @co28 <|aI @sr28 <|((P28 a).iffx)) ?_
  refine cnd (fun h => ?_) (fun h => ?_)
  · have h : chk a ≠ 0 := by simpa using h
    refine gP @Nat.zero_add ?_
    refine rP hd @Tryd.results78 ?_
    try exact True.intro
    rw [chk2, if_neg h]
  · have h : chk a = 0 := by simpa using h
    refine gP (aI @h0 <|aI @h1 <|aI @co28 <|aI @sr28 <|((P28 b).iffx)) ?_
    refine rP hd @Tryd.results78 ?_
    try exact True.intro
    rw [chk2, if_pos h]
theorem P82 (a b : List Int) : Ans X 82 [.sl (ints a), .sl (ints b)] (.ret (vi (chk2 a b))) := by
  refine call_of_X (fn := Tryd.f82) 2 Tryd.func82 rfl (by decide +kernel) rfl ?_ ?_ ?_ ?_
  · rfl
  · exact fun _ => rfl
  · intro v hv; injection hv with hv; subst hv; rfl
  intro s hs hd ho
  have h0 : s.t.get 0 = .sl (ints a) := by subst hs; rfl
  have h1 : s.t.get 1 = .sl (ints b) := by subst hs; rfl
  clear hs
  refine gP (aI @h0 <|aI @h1 <|aI @co74 <|aI @sr74 <|((P74 a).iffx)) ?_
  refine cnd (fun h => ?_) (fun h => ?_)
  · have h : chk a ≠ 0 := by simpa using h
    refine gP @Nat.zero_add ?_
    refine rP hd @Tryd.results82 ?_
    try exact True.intro
    rw [chk2, if_neg h]
  · have h : chk a = 0 := by simpa using h
    refine gP (aI @h0 <|aI @h1 <|aI @co74 <|aI @sr74 <|((P74 b).iffx)) ?_
    refine rP hd @Tryd.results82 ?_
    try exact True.intro
    rw [chk2, if_pos h]
end Go.Proofs.YtpocekfifokndaaDoor
namespace Go.Proofs.YtpocekfifokndaaDoor
open Go Go.Ev Go.Pl
set_option maxRecDepth 100000
set_option maxHeartbeats 4000000
def natsOf (a : List Int) : List Nat := a.map Int.toNat
def numI (a : List Int) : Nat := numL (natsOf a).reverse
theorem chk_ok {a : List Int} (h : chk a = 0) : ints a = nats (natsOf a) ∧ (∀ d ∈ natsOf a, d < 60) ∧ a.length ≤ 16 ∧ ((natsOf a).length = a.length) ∧ (0 < a.length → a[0]? ≠ some 0 ∧ a[a.length - 1]? ≠ some 0) := by
  unfold chk at h
  split at h
  · simp at h
  · split at h
    · simp at h
    · rename_i h1 h2
      split at h
      · simp at h
      · rename_i h3
        rw [List.any_eq_true] at h2
        have hall : ∀ d ∈ a, 0 ≤ d ∧ d < 60 := fun d hd => by
          have : ¬ ((decide (d < 0) || decide (60 ≤ d)) = true) := fun e => h2 ⟨d, hd, e⟩
          simp at this; omega
        refine ⟨?_, ?_, by omega, by simp [natsOf], fun hp => ⟨fun e => h3 ⟨hp, .inl e⟩, fun e => h3 ⟨hp, .inr e⟩⟩⟩
        · simp only [ints, nats, natsOf, List.map_map]
          refine List.map_congr_left fun d hd => ?_
          have := hall d hd
          simp only [Function.comp, vn]
          congr 1; omega
        · intro d hd
          obtain ⟨x, hx, rfl⟩ := List.mem_map.1 hd
          have := hall x hx; omega
def mulS (a b : List Int) : List Nat × Int := if chk2 a b ≠ 0 then ([], chk2 a b) else if 16 < (digB (numI a * numI b)).length then ([], 3) else (digB (numI a * numI b), 0)
theorem chk2_ok {a b : List Int} (h : chk2 a b = 0) : chk a = 0 ∧ chk b = 0 := by
  unfold chk2 at h
  split at h
  · rename_i h1; exact ⟨h1, h⟩
  · rename_i h1; exact absurd h h1
theorem numI_lt {a : List Int} (h : chk a = 0) : numI a < 60 ^ 16 := by
  obtain ⟨_, h2, h3, h4, _⟩ := chk_ok h
  have := num_lt (l := (natsOf a).reverse) (fun d hd => h2 d (List.mem_reverse.1 hd))
  rw [List.length_reverse, h4] at this
  exact lt_pow_mono this h3
end Go.Proofs.YtpocekfifokndaaDoor
namespace Go.Proofs.YtpocekfifokndaaDoor
open Go Go.Ev Go.Pl
set_option maxRecDepth 100000
set_option maxHeartbeats 4000000
theorem P23 (a b : List Int) : Ans X 23 [.sl (ints a), .sl (ints b)] (.ret (.tup [.sl (nats (mulS a b).1), vi (mulS a b).2])) := by
  refine call_of_X (fn := Tryd.f23) 2 Tryd.func23 rfl (by decide +kernel) rfl ?_ ?_ ?_ ?_
  · rfl
  · intro h; exact absurd h (by rw [sr23]; decide)
  · intro v hv; injection hv with hv; subst hv; rfl
  intro s hs hd ho
  have hm : s.m = ⟨.nil, []⟩ := by subst hs; rfl
  have h0 : s.t.get 0 = .sl (ints a) := by subst hs; rfl
  have h1 : s.t.get 1 = .sl (ints b) := by subst hs; rfl
  clear hs
  have key : ∀ (m : Mem) (dst : Nat) (K KP : V → Mem → Prop), m.out = [] → m.row ⟨0, 2, 0, 1⟩ = some ⟨1, 22, false, false, [.sl (ints a)]⟩ → m.row ⟨0, 3, 0, 1⟩ = some ⟨1, 22, false, false, [.sl (ints b)]⟩ →
      (CallQ X 77 [vi (chk2 a b), .fn 79 [] [.ptr ⟨0, 2, 0, 1⟩ 0 0, .ptr ⟨0, 3, 0, 1⟩ 0 0]] m dst K KP ↔ K (.tup [.sl (nats (mulS a b).1), vi (mulS a b).2]) m) := by
    rintro ⟨own, out⟩ dst K KP ho r2 r3
    dsimp only at ho
    subst ho
    by_cases h : chk2 a b = 0
    · obtain ⟨ha, hb⟩ := chk2_ok h
      obtain ⟨a1, a2, a3', a4, _⟩ := chk_ok ha
      obtain ⟨b1, b2, b3', b4, _⟩ := chk_ok hb
      rw [a1] at r2
      rw [b1] at r3
      have hg : ∀ o1, _ := fun o1 => P79 (natsOf a) (natsOf b) a2 b2 (by omega) (by omega) o1 own r2 r3
      rw [h]
      refine AnsAt.iff (m := ⟨own, []⟩) (M77 79 _ own _ rfl co79 sr79 hg _ ?_)
      by_cases hl : 16 < (digB (numL (natsOf a).reverse * numL (natsOf b).reverse)).length
      · right
        refine ⟨3, by rw [if_pos hl], ?_⟩
        have hl2 : 16 < (digB (numI a * numI b)).length := hl
        rw [mulS, if_neg (fun e => e h), if_pos hl2]; rfl
      · left
        refine ⟨_, by rw [if_neg hl], ?_⟩
        have hl2 : ¬ 16 < (digB (numI a * numI b)).length := hl
        rw [mulS, if_neg (fun e => e h), if_neg hl2]; rfl
    · refine AnsAt.iff (m := ⟨own, []⟩) ?_
      have := M77e (chk2 a b) h 79 [.ptr ⟨0, 2, 0, 1⟩ 0 0, .ptr ⟨0, 3, 0, 1⟩ 0 0] own rfl
      rw [mulS, if_pos h]; exact this
  refine gPA (aI @h0 <|aI @h1 <|@hm) ?_
  with_reducible refine W_region_k ?_
  intro K hK
  simp (maxSteps := 2000000) (disch := omega) only [SA, ofValue, ofCell, bin, intBin, un, idx, Go.Ev.builtin, calleeOf, V.isNilS, V.depthOk, depth1, V.ok1, V.isAgg, V.cells, isConst, Nat.reduceBEq, Nat.reduceEqDiff, ↓reduceIte, Nat.reduceLeDiff, Nat.reduceAdd, Nat.reduceMul, Nat.reduceSub, Nat.reduceLT, Int.reduceAdd, Int.reduceSub, Int.reduceMul, Int.reduceLT, Int.reduceLE, Int.reduceToNat, Int.reduceNeg, reduceIte, reduceCtorEq, SPx, SAx, h0, h1, hm, co78, sr78, co77, sr77, (P78 a b).iff]
  rw [key _ _ _ _ rfl (by simp [Mem.row_new, Mem.new_out, Mem.gen_new, Mem.gen_nil]) (by simp [Mem.row_new, Mem.new_out, Mem.gen_new, Mem.gen_nil])]
  simp (maxSteps := 2000000) (disch := omega) only [SA, ofValue, ofCell, bin, intBin, un, idx, Go.Ev.builtin, calleeOf, V.isNilS, V.depthOk, depth1, V.ok1, V.isAgg, V.cells, isConst, Nat.reduceBEq, Nat.reduceEqDiff, ↓reduceIte, Nat.reduceLeDiff, Nat.reduceAdd, Nat.reduceMul, Nat.reduceSub, Nat.reduceLT, Int.reduceAdd, Int.reduceSub, Int.reduceMul, Int.reduceLT, Int.reduceLE, Int.reduceToNat, Int.reduceNeg, reduceIte, reduceCtorEq, SPx, SAx]
  refine hK _ _ ?_
  clear hK K
  refine gP @Nat.zero_add ?_
  refine rP hd @Tryd.results23 ?_
  try exact True.intro
end Go.Proofs.YtpocekfifokndaaDoor
namespace Go.Proofs.YtpocekfifokndaaDoor
open Go Go.Ev Go.Pl
set_option maxRecDepth 100000
set_option maxHeartbeats 4000000
theorem P25 (a b : List Int) (hl : a.length < 1000000000000) : Ans X 25 [.sl (ints a), .sl (ints b)] (.ret (.bool (decide (a = b)))) := by
  refine call_of_X (fn := Tryd.f25) 2 Tryd.func25 rfl (by decide +kernel) rfl ?_ ?_ ?_ ?_
  · rfl
  · exact fun _ => rfl
  · intro v hv; injection hv with hv; subst hv; rfl
  intro s hs hd ho
  have h0 : s.t.get 0 = .sl (ints a) := by subst hs; rfl
  have h1 : s.t.get 1 = .sl (ints b) := by subst hs; rfl
  clear hs
  refine gP (aI @h0 <|aI @h1 <|@ints_length) ?_
  refine cnd (fun h => ?_) (fun h => ?_)
  · have h : a.length ≠ b.length := fun e => by rw [e] at h; simp at h
    refine gP @Nat.zero_add ?_
    refine rP hd @Tryd.results25 ?_
    try exact True.intro
    have : a ≠ b := fun e => h (by rw [e])
    simp [this]
  have hlen : a.length = b.length := by
    have h' : (a.length : Int) = b.length := by simpa using h
    omega
  refine gP (aI @h0 <|@h1) ?_
  refine W_loopg (fun (k : Nat) s => s.dfs = [] ∧ s.t.get 0 = .sl (ints a) ∧ s.t.get 1 = .sl (ints b) ∧ s.t.get 5 = vn k ∧ k ≤ a.length ∧ a.take k = b.take k) (fun k => a.length - k) 0 ?_ ?_
  · refine ⟨hd, ?_, ?_, ?_, Nat.zero_le _, rfl⟩
    all_goals (try refine f0 (aI @h0 <|@h1) ?_);all_goals try exact True.intro
    rfl
  clear hd h0 h1 ho
  rintro k s ⟨hd, h0, h1, h5, hk, heq⟩
  refine gP (aI @h0 <|aI @h1 <|aI @h5 <|@ints_length) ?_
  refine cnd (fun h => ?_) (fun h => ?_)
  · have h := of_decide_eq_true h
    have hk : k < a.length := by omega
    obtain ⟨d, hdk⟩ : ∃ d, a[k]? = some d := ⟨a[k], by simp⟩
    obtain ⟨e, hek⟩ : ∃ e, b[k]? = some e := ⟨b[k], by simp⟩
    refine gP (aI @h0 <|aI @h1 <|aI @h5 <|aI @ints_get? <|aI @hdk <|@hek) ?_
    refine cnd (fun h => ?_) (fun h => ?_)
    · have h : d ≠ e := by simpa using h
      refine gP @Nat.zero_add ?_
      refine rP hd @Tryd.results25 ?_
      try exact True.intro
      have : a ≠ b := fun e' => h (by rw [e'] at hdk; rw [hdk] at hek; exact Option.some.inj hek)
      simp [this]
    · have h : d = e := by simpa using h
      refine gPC (aI @h0 <|aI @h1 <|@h5) ?_
      refine ⟨k + 1, ⟨hd, ?_, ?_, ?_, by omega, ?_⟩, by omega⟩
      all_goals (try refine f0 (aI @h0 <|@h1) ?_);all_goals try exact True.intro
      rw [List.take_add_one, List.take_add_one, heq, hdk, hek, h]
  · have h := of_decide_eq_false h
    obtain rfl : k = a.length := by omega
    refine gP @Nat.zero_add ?_
    refine rP hd @Tryd.results25 ?_
    try exact True.intro
    have : a = b := by rw [List.take_length] at heq; rw [heq, hlen, List.take_length]
    simp [this]
end Go.Proofs.YtpocekfifokndaaDoor
namespace Go.Proofs.YtpocekfifokndaaDoor
open Go Go.Ev Go.Pl
set_option maxRecDepth 100000
set_option maxHeartbeats 4000000
theorem P29 (a b : List Int) (e : Int) (hl : a.length < 1000000000000) : Ans X 29 [.sl (ints a), vi e, .sl (ints b)] (.ret (.bool (decide (e = 0 ∧ a = b)))) := by
  refine call_of_X (fn := Tryd.f29) 3 Tryd.func29 rfl (by decide +kernel) rfl ?_ ?_ ?_ ?_
  · rfl
  · exact fun _ => rfl
  · intro v hv; injection hv with hv; subst hv; rfl
  intro s hs hd ho
  have h0 : s.t.get 0 = .sl (ints a) := by subst hs; rfl
  have h1 : s.t.get 1 = vi e := by subst hs; rfl
  have h2 : s.t.get 2 = .sl (ints b) := by subst hs; rfl
  clear hs
  by_cases he : e = 0
  · subst he
    refine gP (aI @h0 <|aI @h1 <|aI @h2 <|aI @co25 <|aI @sr25 <|((P25 a b hl).iffx)) ?_
    refine rP hd @Tryd.results29 ?_
    try exact True.intro
  · refine gP (aI @h0 <|aI @h1 <|aI @h2 <|(beq_eq_false_iff_ne.2 he)) ?_
    refine rP hd (aI @Tryd.results29 <|@he) ?_
    try exact True.intro
end Go.Proofs.YtpocekfifokndaaDoor
namespace Go.Proofs.YtpocekfifokndaaDoor
open Go Go.Ev Go.Pl
set_option maxRecDepth 100000
set_option maxHeartbeats 4000000
theorem P88 (n : Nat) (hn : n < 9000000000000000000) : Ans X 88 [vn n] (.ret (wv (n * 60 ^ 72))) := by
  refine call_of_X (fn := Tryd.f88) 1 Tryd.func88 rfl (by decide +kernel) rfl ?_ ?_ ?_ ?_
  · rfl
  · intro h; exact absurd h (by rw [show scalarRes Tryd.prog 88 = false by kernel_rfl]; decide)
  · intro v hv; injection hv with hv; subst hv; exact wv_still _
  intro s hs hd ho
  have hm : s.m = ⟨.nil, []⟩ := by subst hs; rfl
  have h0 : s.t.get 0 = vn n := by subst hs; rfl
  clear hs
  refine gPW (aI @h0 <|@hm) ?_
  refine W_loopg (fun (k : Nat) s => s.dfs = [] ∧ s.m.out.length = 0 ∧ s.t.get 0 = vn (n / 60 ^ k) ∧ s.t.get 2 = .ptr ⟨0, 2, 0, 1⟩ 0 0 ∧ s.t.get 3 = .ptr ⟨0, 3, 0, 1⟩ 0 0 ∧
    s.t.get 4 = vn (72 + k) ∧
    s.m.row ⟨0, 3, 0, 1⟩ = some ⟨1, 100, false, false, [.agg (wc fun j => if j < 72 + k then dig (n * 60 ^ 72) j else 0)]⟩ ∧
    s.m.row ⟨0, 2, 0, 1⟩ = some ⟨1, 100, false, false, [.agg (wc fun _ => 0)]⟩ ∧ k ≤ 12) (fun k => 12 - k) 0 ?_ ?_
  · refine ⟨hd, ?_, ?_, ?_, ?_, ?_, ?_, ?_, Nat.zero_le _⟩
    all_goals (try refine fW (aI @h0 <|@hm) ?_);all_goals try exact True.intro
    · simp
    · rfl
    · refine wrow fun j _ => ?_
      split
      · rw [dig_shift, if_pos (by omega)]
      · rfl
  clear hd h0 ho hm
  rintro k s ⟨hd, ho, h0, h2, h3, h4, r3, r2, hk⟩
  refine gPW (aI @h0 <|aI @h2 <|aI @h3 <|aI @h4 <|aI @r3 <|aI @r2 <|@ho) ?_
  refine cnd (fun h => ?_) (fun h => ?_)
  · have h := of_decide_eq_true h
    have hk : k < 12 := by
      rcases Nat.lt_or_ge k 12 with h' | h'
      · exact h'
      · have h1 : n < 60 ^ k := Nat.lt_of_lt_of_le (by omega) (Nat.pow_le_pow_right (by decide) h')
        rw [Nat.div_eq_of_lt h1] at h
        exact absurd h (by decide)
    have hb : n / 60 ^ k < 9000000000000000000 := Nat.lt_of_le_of_lt (Nat.div_le_self _ _) hn
    have hk2 : 72 + k < 168 := by omega
    have t1 : n / 60 ^ k % 60 = dig (n * 60 ^ 72) (72 + k) := by rw [dig_shift, if_neg (by omega), Nat.add_sub_cancel_left, dig]
    have t2 : n / 60 ^ k / 60 = n / 60 ^ (k + 1) := by rw [Nat.div_div_eq_div_mul, ← Nat.pow_succ]
    have hb2 : n / 60 ^ (k + 1) < 9000000000000000000 := Nat.lt_of_le_of_lt (Nat.div_le_self _ _) hn
    refine gPWC (aI @h0 <|aI @h2 <|aI @h3 <|aI @h4 <|aI @r3 <|aI @r2 <|aI @ho <|aI @hk2 <|aI @t1 <|@t2) ?_
    refine ⟨k + 1, ⟨hd, ?_, ?_, ?_, ?_, ?_, ?_, ?_, by omega⟩, by omega⟩
    all_goals (try refine fW (aI @h2 <|aI @h3 <|aI @r3 <|aI @r2 <|aI @ho <|aI @t1 <|@t2) ?_);all_goals try exact True.intro
    · rfl
    · refine wrow fun j _ => ?_
      by_cases e : j = 72 + k
      · subst e; rw [if_pos rfl, if_pos (by omega)]
      · rw [if_neg e]
        by_cases e' : j < 72 + k
        · rw [if_pos e', if_pos (by omega)]
        · rw [if_neg e', if_neg (by omega)]
  · have h := of_decide_eq_false h
    have hz : n / 60 ^ k = 0 := (show ∀ q : Nat, ¬ ((q : Int) > 0) → q = 0 from fun q h => by omega) _ h
    have r3' : s.m.row ⟨0, 3, 0, 1⟩ = some ⟨1, 100, false, false, [.agg (wc (dig (n * 60 ^ 72)))]⟩ := by
      rw [r3]
      refine wrow fun j hj => ?_
      split
      · rfl
      · rw [dig_shift, if_neg (by omega)]
        have h1 : n < 60 ^ k := by
          rcases Nat.lt_or_ge n (60 ^ k) with h' | h'
          · exact h'
          · have := Nat.div_pos h' (pow_pos k); omega
        exact (dig_of_lt (lt_pow_mono h1 (by omega))).symm
    clear r3
    refine gPW (aI @h2 <|aI @h3 <|aI @r3' <|aI @r2 <|@ho) ?_
    refine rPW hd (aI @Tryd.results88 <|aI @h2 <|aI @h3 <|aI @r3' <|aI @r2 <|@ho) ?_
    try exact True.intro
end Go.Proofs.YtpocekfifokndaaDoor
namespace Go.Proofs.YtpocekfifokndaaDoor
open Go Go.Ev Go.Pl
set_option maxRecDepth 100000
set_option maxHeartbeats 4000000
def invK (i j k : Nat) : Nat := max (max ((i + 1) / 2) j) k
def invW (i j k : Nat) : Nat := 2 ^ (2 * invK i j k - i) * 3 ^ (invK i j k - j) * 5 ^ (invK i j k - k)
def max3 (a b c : Nat) : Nat := max (max a b) c
theorem max_cast (a b c : Nat) : (if (c : Int) > (if (b : Int) > (a : Int) then (b : Int) else (a : Int)) then (c : Int) else (if (b : Int) > (a : Int) then (b : Int) else (a : Int))) = ((max3 a b c : Nat) : Int) := by
  simp only [max3, Nat.max_def]
  split <;> split <;> split <;> split <;> omega
def pB (l : Nat) : Nat := if l = 0 then 2 else if l = 1 then 3 else 5
def pX (x y z : Nat) (l : Nat) : Nat := if l = 0 then x else if l = 1 then y else z
def pW (x y z : Nat) : Nat → Nat
  | 0 => 1
  | l + 1 => pW x y z l * pB l ^ pX x y z l
theorem pB_pos (l : Nat) : 0 < pB l ∧ pB l ≤ 5 := by unfold pB; split <;> (try split) <;> decide
theorem pW_pos (x y z : Nat) : ∀ l, 0 < pW x y z l
  | 0 => Nat.one_pos
  | l + 1 => Nat.mul_pos (pW_pos x y z l) (Nat.pow_pos (pB_pos l).1)
theorem pW_mono (x y z : Nat) {l n : Nat} (h : l ≤ n) : pW x y z l ≤ pW x y z n := by
  induction h with
  | refl => exact Nat.le_refl _
  | step _ ih => exact Nat.le_trans ih (Nat.le_mul_of_pos_right _ (Nat.pow_pos (pB_pos _).1))
theorem pW_three (x y z : Nat) : pW x y z 3 = 2 ^ x * 3 ^ y * 5 ^ z := by simp [pW, pB, pX]
theorem P90 (i j k : Nat) (hi : i < 200) (hj : j < 200) (hk : k < 200) (hb : invW i j k < 60 ^ 90) : Ans X 90 [vn i, vn j, vn k] (.ret (.tup [wv (invW i j k * 60 ^ 72), vn (invK i j k)])) := by
  refine call_of_X (fn := Tryd.f90) 3 Tryd.func90 rfl (by decide +kernel) rfl ?_ ?_ ?_ ?_
  · rfl
  · intro h; exact absurd h (by rw [sr90]; decide)
  · intro v hv; injection hv with hv; subst hv; simp [V.still, wc_transit]
  intro s hs hd ho
  have hm : s.m = ⟨.nil, []⟩ := by subst hs; rfl
  have h0 : s.t.get 0 = vn i := by subst hs; rfl
  have h1 : s.t.get 1 = vn j := by subst hs; rfl
  have h2 : s.t.get 2 = vn k := by subst hs; rfl
  clear hs
  have q1 : Ans X 88 [vi 1] (.ret (wv (1 * 60 ^ 72))) := P88 1 (by decide)
  have hM : max3 ((i + 1) / 2) j k = invK i j k := rfl
  have hM1 : invK i j k < 200 := by unfold invK; omega
  have hM2 : i ≤ 2 * invK i j k ∧ j ≤ invK i j k ∧ k ≤ invK i j k := by unfold invK; omega
  have hW : invW i j k = pW (2 * invK i j k - i) (invK i j k - j) (invK i j k - k) 3 := by rw [pW_three, invW]
  rw [hW] at hb ⊢
  clear hW
  generalize invK i j k = M at *
  obtain ⟨x, hx⟩ : ∃ x, 2 * M - i = x := ⟨_, rfl⟩
  obtain ⟨y, hy⟩ : ∃ y, M - j = y := ⟨_, rfl⟩
  obtain ⟨z, hz⟩ : ∃ z, M - k = z := ⟨_, rfl⟩
  rw [hx, hy, hz] at hb ⊢
  have e1' : (2 : Int) * (M : Int) = ((2 * M : Nat) : Int) := by omega
  have e1'' : ((2 * M : Nat) : Int) - (i : Int) = (x : Int) := by omega
  have e2 : (M : Int) - (j : Int) = (y : Int) := by omega
  have e3 : (M : Int) - (k : Int) = (z : Int) := by omega
  have hxb : x < 1000 := by omega
  have hyb : y < 1000 := by omega
  have hzb : z < 1000 := by omega
  clear hx hy hz hM2
  have ediv : Int.tdiv (((i + 1 : Nat)) : Int) 2 = (((i + 1) / 2 : Nat) : Int) := rfl
  repeat (first
    | with_reducible first | refine W_seq ?_ | refine W_skip ?_ | refine W_label ?_ | refine W_ret ?_ | refine W_exit ?_ | refine W_block ?_ | refine thenI ?_ | refine thenRet ?_ | refine thenExit ?_ | refine blockRet ?_ | refine blockI ?_ | refine blockExit ?_ | refine blockExitNe rfl ?_
    | (with_reducible refine W_region_k ?_
       intro K hK
       simp (maxSteps := 2000000) (disch := omega) only [SA, ofValue, ofCell, bin, intBin, un, idx, Go.Ev.builtin, calleeOf, V.isNilS, V.depthOk, depth1, V.ok1, V.isAgg, V.cells, isConst, Nat.reduceBEq, Nat.reduceEqDiff, ↓reduceIte, Nat.reduceLeDiff, Nat.reduceAdd, Nat.reduceMul, Nat.reduceSub, Nat.reduceLT, Int.reduceAdd, Int.reduceSub, Int.reduceMul, Int.reduceLT, Int.reduceLE, Int.reduceToNat, Int.reduceNeg, reduceIte, reduceCtorEq, SPx, SAx, SWx, cast_add1, ediv, max_cast, hM, e1', e1'', e2, e3, wr_nat, h0, h1, h2, hm, co88, sr88, q1.iff, Int.reduceEq]
       refine hK _ _ ?_
       clear hK K)
  )
  obtain ⟨cs, hcs⟩ : ∃ cs : List V, cs = [vi 2, vn x, vi 3, vn y, vi 5, vn z] := ⟨_, rfl⟩
  have hcl : ∀ l, l < 3 → List.take 2 (List.drop (l * 2) cs) = [vn (pB l), vn (pX x y z l)] := by
    intro l hl
    subst hcs
    rcases (show l = 0 ∨ l = 1 ∨ l = 2 by omega) with rfl | rfl | rfl <;> rfl
  refine W_loopg (fun (l : Nat) s => s.dfs = [] ∧ s.m.out.length = 0 ∧ s.t.get 6 = .ptr ⟨0, 6, 0, 1⟩ 0 0 ∧ s.t.get 8 = vn M ∧ s.t.get 9 = .ptr ⟨0, 9, 0, 1⟩ 0 0 ∧ s.t.get 32 = .agg cs ∧ s.t.get 33 = vn l ∧
    s.m.row ⟨0, 9, 0, 1⟩ = some ⟨1, 100, false, false, [wv (pW x y z l * 60 ^ 72)]⟩ ∧ s.m.row ⟨0, 6, 0, 1⟩ = some ⟨1, 100, false, false, [.agg (wc fun _ => 0)]⟩ ∧ l ≤ 3) (fun l => 3 - l) 0 ?_ ?_
  · refine ⟨hd, ?_, ?_, ?_, ?_, ?_, ?_, ?_, ?_, by omega⟩
    all_goals (try simp (maxSteps := 2000000) (disch := omega) only [SO, ofValue, ofCell, Nat.reduceBEq, Nat.reduceEqDiff, ↓reduceIte, and_self, and_true, true_and, Mem.newRef_eq, Mem.gen_nil, Mem.gen_new, Mem.gen_set, Mem.row_new, Mem.row_setW, Mem.new_out, Mem.set_out, List.length_nil, List.length_cons, Nat.zero_le, Nat.le_refl, Nat.reduceLeDiff, Nat.reduceAdd, and_self, and_true, true_and, Nat.zero_add, SWx, hm, pW])
    all_goals first | exact congrArg V.agg hcs.symm | rfl
  clear hd ho hm h0 h1 h2
  rintro l s ⟨hd, ho, h6, h8, h9, h32, h33, r9, r6, hl⟩
  refine gP @h33 ?_
  refine cnd (fun h => ?_) (fun h => ?_)
  · have h := of_decide_eq_true h
    have hl : l < 3 := by omega
    have hl' : (l : Int) < 3 := by omega
    refine gPAW (aI @h6 <|aI @h8 <|aI @h9 <|aI @h32 <|aI @h33 <|aI @r9 <|aI @r6 <|aI @ho <|aI (hcl l hl) <|@hl') ?_
    refine W_loopg (fun (q : Nat) s => s.dfs = [] ∧ s.m.out.length = 0 ∧ s.t.get 6 = .ptr ⟨0, 6, 0, 1⟩ 0 0 ∧ s.t.get 8 = vn M ∧ s.t.get 9 = .ptr ⟨0, 9, 0, 1⟩ 0 0 ∧ s.t.get 32 = .agg cs ∧ s.t.get 33 = vn l ∧
      (∃ g, s.t.get 11 = .ptr ⟨0, 11, 0, g⟩ 0 0 ∧ s.m.row ⟨0, 11, 0, g⟩ = some ⟨g, 84, false, false, [.agg [vn (pB l), vn (pX x y z l)]]⟩) ∧ s.t.get 37 = vn (pX x y z l) ∧ s.t.get 38 = vn q ∧
      s.m.row ⟨0, 9, 0, 1⟩ = some ⟨1, 100, false, false, [wv (pW x y z l * pB l ^ q * 60 ^ 72)]⟩ ∧ s.m.row ⟨0, 6, 0, 1⟩ = some ⟨1, 100, false, false, [.agg (wc fun _ => 0)]⟩ ∧ q ≤ pX x y z l) (fun q => pX x y z l - q) 0 ?_ ?_
    · refine ⟨hd, ?_, ?_, ?_, ?_, ?_, ?_, ⟨s.m.gen 11 0 + 1, ?_, ?_⟩, ?_, ?_, ?_, ?_, by omega⟩
      all_goals (try refine fW (aI @h6 <|aI @h8 <|aI @h9 <|aI @h32 <|aI @h33 <|aI @r9 <|aI @r6 <|aI @ho <|aI @Nat.pow_zero <|@Nat.mul_one) ?_);all_goals try exact True.intro
      all_goals rfl
    clear hd ho h6 h8 h9 h32 h33 r9 r6
    rintro q s ⟨hd, ho, h6, h8, h9, h32, h33, ⟨g, h11, r11⟩, h37, h38, r9, r6, hq⟩
    refine gP (aI @h37 <|@h38) ?_
    refine cnd (fun h => ?_) (fun h => ?_)
    · have h := of_decide_eq_true h
      have hq : q < pX x y z l := by omega
      have hpx : pX x y z l < 1000 := by unfold pX; split <;> (try split) <;> assumption
      have hle : pW x y z l * pB l ^ q * pB l ≤ pW x y z 3 := by
        rw [Nat.mul_assoc, ← Nat.pow_succ]
        refine Nat.le_trans ?_ (pW_mono x y z (show l + 1 ≤ 3 by omega))
        exact Nat.mul_le_mul_left _ (Nat.pow_le_pow_right (pB_pos l).1 hq)
      have hlt : pW x y z l * pB l ^ q * 60 ^ 72 * pB l < 60 ^ 168 := by
        rw [Nat.mul_right_comm]
        calc pW x y z l * pB l ^ q * pB l * 60 ^ 72 < 60 ^ 90 * 60 ^ 72 := Nat.mul_lt_mul_of_pos_right (Nat.lt_of_le_of_lt hle hb) (by decide)
          _ ≤ 60 ^ 168 := by decide
      have q2 := P115 (pW x y z l * pB l ^ q * 60 ^ 72) (pB l) (Nat.lt_of_le_of_lt (Nat.le_mul_of_pos_right _ (pB_pos l).1) hlt) (by have := (pB_pos l).2; omega)
      rw [if_pos hlt, show pW x y z l * pB l ^ q * 60 ^ 72 * pB l = pW x y z l * pB l ^ (q + 1) * 60 ^ 72 by rw [Nat.pow_succ]; grind] at q2
      refine gPAWC (aI @h6 <|aI @h8 <|aI @h9 <|aI @h11 <|aI @h32 <|aI @h33 <|aI @h37 <|aI @h38 <|aI @r9 <|aI @r6 <|aI @r11 <|aI @ho <|aI @co115 <|aI @sr115 <|@q2.iffx) ?_
      refine ⟨q + 1, ⟨hd, ?_, ?_, ?_, ?_, ?_, ?_, ⟨g, ?_, ?_⟩, ?_, ?_, ?_, ?_, by omega⟩, by omega⟩
      all_goals (try refine fW (aI @h6 <|aI @h8 <|aI @h9 <|aI @h11 <|aI @h32 <|aI @h33 <|aI @h37 <|aI @r6 <|aI @r11 <|@ho) ?_);all_goals try exact True.intro
    · have h := of_decide_eq_false h
      obtain rfl : q = pX x y z l := by omega
      refine gPC @h33 ?_
      refine ⟨l + 1, ⟨hd, ?_, ?_, ?_, ?_, ?_, ?_, ?_, ?_, by omega⟩, by omega⟩
      all_goals (try refine fW (aI @h6 <|aI @h8 <|aI @h9 <|aI @h32 <|aI @r9 <|aI @r6 <|@ho) ?_);all_goals try exact True.intro
      rfl
  · have h := of_decide_eq_false h
    obtain rfl : l = 3 := by omega
    refine gPAW (aI @h6 <|aI @h8 <|aI @h9 <|aI @r9 <|aI @r6 <|@ho) ?_
    refine rPAW hd (aI @Tryd.results90 <|aI @h6 <|aI @h8 <|aI @h9 <|aI @r9 <|aI @r6 <|@ho) ?_
    try exact True.intro
end Go.Proofs.YtpocekfifokndaaDoor
namespace Go.Proofs.YtpocekfifokndaaDoor
open Go Go.Ev Go.Pl
set_option maxRecDepth 100000
set_option maxHeartbeats 4000000
theorem P101 (N n : Nat) (hN : N < 60 ^ 168) (hn0 : 0 < n) (hn : n < 1000000000000) : Ans X 101 [wv N, vn n] (.ret (.tup [wv (N / 60 ^ 72 / n * 60 ^ 72 + N % 60 ^ 72), vn (N / 60 ^ 72 % n)])) := by
  refine call_of_X (fn := Tryd.f101) 2 Tryd.func101 rfl (by decide +kernel) rfl ?_ ?_ ?_ ?_
  · simp only [List.any_cons, List.any_nil, wv_refs]; rfl
  · intro h; exact absurd h (by rw [show scalarRes Tryd.prog 101 = false by kernel_rfl]; decide)
  · intro v hv; injection hv with hv; subst hv; simp [V.still, wc_transit]
  intro s hs hd ho
  have hm : s.m = ⟨.nil, []⟩ := by subst hs; rfl
  have h0 : s.t.get 0 = .agg (wc (dig N)) := by subst hs; rfl
  have h1 : s.t.get 1 = vn n := by subst hs; rfl
  clear hs
  have hA : ∀ i, dig N (i + 72) = dig (N / 60 ^ 72) i := fun i => by unfold dig; rw [Nat.div_div_eq_div_mul, ← Nat.pow_add, Nat.add_comm 72]
  have hAl : N / 60 ^ 72 < 60 ^ 96 := by
    refine Nat.div_lt_of_lt_mul ?_
    rw [← Nat.pow_add]; exact hN
  refine gPW (aI @h0 <|aI @h1 <|@hm) ?_
  refine W_loopg (fun (k : Nat) s => s.dfs = [] ∧ s.m.out.length = 0 ∧ s.t.get 1 = vn n ∧ s.t.get 2 = .ptr ⟨0, 2, 0, 1⟩ 0 0 ∧ s.t.get 4 = .ptr ⟨0, 4, 0, 1⟩ 0 0 ∧
    s.t.get 7 = vn (k + 71) ∧ s.t.get 6 = vn (N / 60 ^ 72 / 60 ^ k % n) ∧
    s.m.row ⟨0, 2, 0, 1⟩ = some ⟨1, 100, false, false, [.agg (wc fun j => if j < k + 72 then dig N j else dig (N / 60 ^ 72 / n) (j - 72))]⟩ ∧
    s.m.row ⟨0, 4, 0, 1⟩ = some ⟨1, 100, false, false, [.agg (wc fun _ => 0)]⟩ ∧ k ≤ 96) (fun k => k) 96 ?_ ?_
  · refine ⟨hd, ?_, ?_, ?_, ?_, ?_, ?_, ?_, ?_, Nat.le_refl _⟩
    all_goals (try refine fW (aI @h0 <|aI @h1 <|@hm) ?_);all_goals try exact True.intro
    · rfl
    · rw [Nat.div_eq_of_lt hAl]; simp
    · exact wrow fun j hj => by rw [if_pos hj]
  clear hd h0 h1 ho hm
  rintro k s ⟨hd, ho, h1, h2, h4, h7, h6, r2, r4, hk⟩
  refine gPW (aI @h1 <|aI @h2 <|aI @h4 <|aI @h7 <|aI @h6 <|aI @r2 <|aI @r4 <|@ho) ?_
  refine cnd (fun h => ?_) (fun h => ?_)
  · have h := of_decide_eq_true h
    obtain ⟨i, rfl⟩ : ∃ i, k = i + 1 := ⟨k - 1, by omega⟩
    have h7 : s.t.get 7 = vn (i + 72) := h7
    have hb : N / 60 ^ 72 / 60 ^ (i + 1) % n < 1000000000000 := Nat.lt_trans (Nat.mod_lt _ hn0) hn
    have hb2 := dig_lt N (i + 72)
    have hk : i + 72 < 168 := by omega
    have hlt : i + 72 < i + 1 + 72 := by omega
    obtain ⟨t1, t2⟩ := over_step (N / 60 ^ 72) n i hn0
    rw [← hA] at t1 t2
    have hb3 := dig_lt (N / 60 ^ 72 / n) i
    have hn1 : ¬ ((n : Int) = 0) := by omega
    have hsub : ((i + 72 : Nat) : Int) - 1 = ((i + 71 : Nat) : Int) := by omega
    refine gPWC (aI @h1 <|aI @h2 <|aI @h4 <|aI @h7 <|aI @h6 <|aI @r2 <|aI @r4 <|aI @ho <|aI @hk <|aI @hlt <|aI @t1 <|aI @t2 <|aI @hn1 <|@hsub) ?_
    refine ⟨i, ⟨hd, ?_, ?_, ?_, ?_, ?_, ?_, ?_, ?_, by omega⟩, by omega⟩
    all_goals (try refine fW (aI @h1 <|aI @h2 <|aI @h4 <|aI @r2 <|aI @r4 <|aI @ho <|aI @t1 <|@t2) ?_);all_goals try exact True.intro
    refine wrow fun j _ => ?_
    by_cases e : j = i + 72
    · subst e; rw [if_pos rfl, if_neg (by omega), Nat.add_sub_cancel]
    · rw [if_neg e]
      by_cases e' : j < i + 72
      · rw [if_pos e', if_pos (by omega)]
      · rw [if_neg e', if_neg (by omega)]
  · have h := of_decide_eq_false h
    obtain rfl : k = 0 := by omega
    have r2' : s.m.row ⟨0, 2, 0, 1⟩ = some ⟨1, 100, false, false, [.agg (wc (dig (N / 60 ^ 72 / n * 60 ^ 72 + N % 60 ^ 72)))]⟩ := by
      rw [r2]
      refine wrow fun j hj => ?_
      rw [dig_join]
    clear r2
    have h6 : s.t.get 6 = vn (N / 60 ^ 72 % n) := by rw [h6]; simp
    refine gPW (aI @h1 <|aI @h2 <|aI @h4 <|aI @h6 <|aI @r2' <|aI @r4 <|@ho) ?_
    refine rPW hd (aI @Tryd.results101 <|aI @h1 <|aI @h2 <|aI @h4 <|aI @r2' <|aI @r4 <|@ho) ?_
    try exact True.intro
end Go.Proofs.YtpocekfifokndaaDoor
namespace Go.Pl
def mult (p N : Nat) : Nat := if h : 1 < p ∧ 0 < N ∧ N % p = 0 then mult p (N / p) + 1 else 0
termination_by N
decreasing_by exact Nat.div_lt_self h.2.1 h.1
theorem mult_yes {p N : Nat} (hp : 1 < p) (hN : 0 < N) (h : N % p = 0) : mult p N = mult p (N / p) + 1 := by rw [mult, dif_pos ⟨hp, hN, h⟩]
theorem mult_no {p N : Nat} (h : N % p ≠ 0) : mult p N = 0 := by rw [mult, dif_neg (fun e => h e.2.2)]
def rem (p N : Nat) : Nat := N / p ^ mult p N
theorem rem_yes {p N : Nat} (hp : 1 < p) (hN : 0 < N) (h : N % p = 0) : rem p N = rem p (N / p) := by
  unfold rem
  rw [mult_yes hp hN h, Nat.pow_succ, Nat.mul_comm, ← Nat.div_div_eq_div_mul]
theorem rem_no {p N : Nat} (h : N % p ≠ 0) : rem p N = N := by unfold rem; rw [mult_no h, Nat.pow_zero, Nat.div_one]
theorem rem_spec {p N : Nat} (hp : 1 < p) (hN : 0 < N) : N = rem p N * p ^ mult p N ∧ 0 < rem p N ∧ rem p N % p ≠ 0 := by
  induction N using Nat.strongRecOn with
  | _ N ih =>
    by_cases h : N % p = 0
    · have hd : 0 < N / p := Nat.div_pos (Nat.le_of_dvd hN (Nat.dvd_of_mod_eq_zero h)) (by omega)
      obtain ⟨h1, h2, h3⟩ := ih (N / p) (Nat.div_lt_self hN hp) hd
      rw [rem_yes hp hN h, mult_yes hp hN h]
      refine ⟨?_, h2, h3⟩
      have e : N = N / p * p := (Nat.div_mul_cancel (Nat.dvd_of_mod_eq_zero h)).symm
      rw [Nat.pow_succ, ← Nat.mul_assoc, ← h1]
      exact e
    · rw [rem_no h, mult_no h]; exact ⟨by simp, hN, h⟩
theorem rem_le (p N : Nat) : rem p N ≤ N := Nat.div_le_self _ _
theorem mult_le {p N : Nat} (hp : 1 < p) (hN : 0 < N) : mult p N < N := by
  have h := rem_spec hp hN
  have h1 : mult p N < p ^ mult p N := Nat.lt_pow_self hp
  have h2 : p ^ mult p N ≤ rem p N * p ^ mult p N := Nat.le_mul_of_pos_left _ h.2.1
  omega
def splitF : List Nat → Nat → List Nat × Nat
  | [], N => ([], N)
  | p :: ps, N => (mult p N :: (splitF ps (rem p N)).1, (splitF ps (rem p N)).2)
theorem splitF_length : ∀ ps N, (splitF ps N).1.length = ps.length
  | [], _ => rfl
  | p :: ps, N => by simp [splitF, splitF_length ps]
end Go.Pl
namespace Go.Proofs.YtpocekfifokndaaDoor
open Go Go.Ev Go.Pl
set_option maxRecDepth 100000
set_option maxHeartbeats 4000000
theorem splitF_cons (p : Nat) (ps : List Nat) (N : Nat) : splitF (p :: ps) N = (mult p N :: (splitF ps (rem p N)).1, (splitF ps (rem p N)).2) := rfl
theorem over_whole (C p : Nat) : C * 60 ^ 72 / 60 ^ 72 / p * 60 ^ 72 + C * 60 ^ 72 % 60 ^ 72 = C / p * 60 ^ 72 := by
  rw [Nat.mul_div_cancel _ (pow_pos 72), Nat.mul_mod_left, Nat.add_zero]
theorem over_rest (C p : Nat) : C * 60 ^ 72 / 60 ^ 72 % p = C % p := by rw [Nat.mul_div_cancel _ (pow_pos 72)]
theorem Q101 (C p : Nat) (hC : C < 60 ^ 90) (hp0 : 0 < p) (hp : p < 1000) : Ans X 101 [wv (C * 60 ^ 72), vn p] (.ret (.tup [wv (C / p * 60 ^ 72), vn (C % p)])) := by
  have h := P101 (C * 60 ^ 72) p (by
    calc C * 60 ^ 72 < 60 ^ 90 * 60 ^ 72 := Nat.mul_lt_mul_of_pos_right hC (by decide)
      _ ≤ 60 ^ 168 := by decide) hp0 (by omega)
  rw [over_whole, over_rest] at h
  exact h
theorem mult_bound {p c C : Nat} (n : Nat) (hp : 1 < p) (h : p ^ c ≤ C) (hC : C < 60 ^ n) : c < 6 * n := by
  have h1 : 2 ^ c ≤ p ^ c := Nat.pow_le_pow_left (by omega) _
  have h2 : 60 ^ n ≤ (2 ^ 6) ^ n := Nat.pow_le_pow_left (by decide) _
  rw [← Nat.pow_mul] at h2
  exact (Nat.pow_lt_pow_iff_right (a := 2) (by decide)).1 (Nat.lt_of_le_of_lt h1 (Nat.lt_of_le_of_lt h (Nat.lt_of_lt_of_le hC h2)))
theorem P87 (ps : List Nat) (N : Nat) (hps : ∀ p ∈ ps, 1 < p ∧ p < 100) (hl : ps.length ≤ 10) (hN : 0 < N) (hb : N < 60 ^ 90) :
    Ans X 87 [wv (N * 60 ^ 72), .sl (nats ps)] (.ret (.tup [.sl (nats (splitF ps N).1), wv ((splitF ps N).2 * 60 ^ 72)])) := by
  refine call_of_X (fn := Tryd.f87) 2 Tryd.func87 rfl (by decide +kernel) rfl ?_ ?_ ?_ ?_
  · simp only [List.any_cons, List.any_nil, wv_refs]; rfl
  · intro h; exact absurd h (by rw [sr87]; decide)
  · intro v hv; injection hv with hv; subst hv; simp [V.still, wc_transit]
  intro s hs hd ho
  have hm : s.m = ⟨.nil, []⟩ := by subst hs; rfl
  have h0 : s.t.get 0 = wv (N * 60 ^ 72) := by subst hs; rfl
  have h1 : s.t.get 1 = .sl (nats ps) := by subst hs; rfl
  clear hs
  repeat (first
    | with_reducible first | refine W_seq ?_ | refine W_skip ?_ | refine W_label ?_ | refine W_ret ?_ | refine W_exit ?_ | refine W_block ?_ | refine thenI ?_ | refine thenRet ?_ | refine thenExit ?_ | refine blockRet ?_ | refine blockI ?_ | refine blockExit ?_ | refine blockExitNe rfl ?_
    | (with_reducible refine W_region_k ?_
       intro K hK
       simp (maxSteps := 2000000) (disch := omega) only [WL_cons_iff, WL_nil_iff, next_defer, next_val, next_skip, next_call, next_panic, wantedV, arr_toList, arr_get?, put, Option.bind_some, Option.map_some, Option.getD_some, Option.getD_none, Option.map_none, evOp_move, evOp_assign, evOp_pick, evOp_alloc, evOp_box, evOp_build, evOp_buildSlice, evOp_load, evOp_store, evOp_nilCheck, evOp_binOp, evOp_unOp, evOp_convert, evOp_makeInterface, evOp_makeFunc, evOp_makeSlice, evOp_slice, evOp_fieldAddr, evOp_field, evOp_indexAddr, evOp_index, evOp_extract, evOp_typeAssert, evOp_call, evOp_defer, evOp_panic, opd, ofValue, ofCell, Tm.get_setb, cond_true, cond_false, Nat.reduceBEq, ne_eq, Nat.reduceEqDiff, not_false_eq_true, ↓reduceIte, if_true, if_false, Option.isNone_none, Bool.and_self, Bool.and_true, beq_self_eq_true, filled_rs, filled_nilS, mapOpd, List.map_cons, List.map_nil, bin, intBin, un, idx, Go.Ev.builtin, calleeOf, List.getElem?_toArray, List.toList_toArray, filled_int, filled_bool, filled_str, filled_sl, filled_ifc, filled_nilI, filled_rs, filled_ptr, filled_fn, filled_nilS, snaps_nil, snaps_cons, snap_int, snap_bool, snap_str, snap_sl, snap_nilS, snap_ifc, snap_nilI, snap_rs, snap_ptr, snap_cptr, snap_fn, frzs_nil, frzs_cons, frz_int, frz_bool, frz_str, frz_sl, frz_nilS, frz_ifc, frz_nilI, frz_ptr, frz_cptr, frz_fn, frz_rs, unNil_int, unNil_bool, unNil_str, unNil_sl, unNil_ifc, unNil_nilI, unNil_ptr, unNil_fn, unNil_rs, unNil_nilS, Nat.lt_irrefl, V.isNilS, V.depthOk, depth1, V.ok1, setElem, Nat.zero_add, Nat.add_zero, Nat.mul_one, Nat.one_mul, Mem.newRef_eq, Mem.gen_nil, Mem.gen_new, Mem.gen_set, Mem.row_new, Mem.row_setW, Mem.new_out, Mem.set_out, List.length_nil, List.length_cons, Nat.zero_le, Nat.le_refl, Nat.reduceLeDiff, Nat.reduceAdd, and_self, and_true, true_and, List.set_cons_zero, List.set_cons_succ, false_and, and_false, or_false, false_or, or_true, true_or, List.any_cons, List.any_nil, Bool.or_false, Bool.false_or, Bool.or_true, Bool.true_or, List.isEmpty_nil, List.isEmpty_cons, refs_int, refs_bool, refs_str, refs_sl, refs_ifc, refs_nilI, refs_ptr, refs_rs, refs_fn, refs_agg, loose_int, loose_bool, loose_str, loose_sl, loose_ifc, loose_nilI, loose_nilS, loose_ptr, loose_rs, loose_fn, pick, Go.Ev.part, width_int, width_bool, width_str, width_sl, width_rs, width_nilS, width_nilI, width_ifc, width_ptr, width_cptr, width_fn, width_agg, V.isAgg, V.cells, Int.toNat_natCast, Nat.reduceAdd, Nat.reduceMul, Nat.reduceSub, Nat.reduceLeDiff, Nat.reduceBEq, Nat.reduceLT, Int.reduceAdd, Int.reduceSub, Int.reduceMul, Int.reduceLT, Int.reduceLE, Int.reduceToNat, Int.reduceNeg, ite_yes, beq_iff_eq, decide_eq_true_eq, List.nil_append, List.append_nil, Option.some.injEq, if_true, if_false, ite_true, ite_false, reduceIte, reduceCtorEq, Bool.false_eq_true, decide_true, decide_false, List.getElem?_cons_zero, List.getElem?_cons_succ, beq_self_eq_true, and_self, and_true, true_and, Bool.not_true, Bool.not_false, isConst, ↓reduceIte, X_P, Tryd.underlying3, c3, b3, a3, k3, z3, Tryd.underlying4, c4, b4, a4, k4, z4, Tryd.underlying5, c5, b5, a5, k5, z5, Tryd.underlying9, c9, b9, a9, k9, z9, Tryd.underlying20, c20, b20, a20, k20, Tryd.underlying22, c22, b22, a22, k22, z22, e22, Tryd.underlying23, c23, b23, a23, k23, z23, Tryd.underlying32, c32, b32, a32, k32, z32, p32, Tryd.underlying45, c45, b45, a45, k45, z45, e45, Tryd.underlying54, c54, b54, a54, k54, z54, p54, Tryd.underlying61, c61, b61, a61, k61, z61, e61, Tryd.underlying64, c64, b64, a64, k64, z64, e64, Tryd.underlying69, c69, b69, a69, k69, z69, p69, Tryd.underlying76, c76, b76, a76, k76, z76, p76, Tryd.underlying84, c84, b84, a84, k84, z84, p84, Tryd.underlying94, c94, b94, a94, k94, z94, e94, Tryd.underlying95, c95, b95, a95, k95, z95, e95, Tryd.underlying98, c98, b98, a98, k98, z98, p98, Tryd.underlying100, c100, b100, a100, k100, z100, p100, Tryd.underlying116, c116, b116, a116, k116, z116, e116, Tryd.underlying119, c119, b119, a119, k119, z119, p119, Tryd.underlying142, c142, b142, a142, k142, z142, p142, Tryd.underlying143, c143, b143, a143, k143, z143, p143, Tryd.underlying152, c152, b152, a152, k152, z152, p152, Tryd.underlying154, c154, b154, a154, k154, z154, Tryd.underlying157, c157, b157, a157, k157, z157, e157, Tryd.underlying159, c159, b159, a159, k159, z159, p159, cut_one, cut_nats, nats_snoc, nats_length, nats_width, ints_width, maxLen_eq, appendTo, elemsOf, fillElems, elemOk, List.zip_cons_cons, List.zip_nil_left, List.zip_nil_right, List.replicate_one, List.all_cons, List.all_nil, Option.isSome_some, Nat.le_refl, List.length_append, List.map_cons, List.map_nil, Bool.and_true, Bool.true_and, bounds, loOf, hiOf, Bool.not_false, wc_length, wc_get, wc_splice, wc_loose, wc_nil, wc_zero, wc_take, filled_wc, snap_wc, frz_wc, rowsOf_wc, ptrs_wc, mv_wc, mv2_wc, depth_wc, unNil_wc, wc_nilIn, nats_zero, h0, h1, hm]
       refine hK _ _ ?_
       clear hK K)
    | (refine W_draw_k (by decide +kernel) ?_
       intro K hK
       simp (maxSteps := 2000000) (disch := omega) only [WL_cons_iff, WL_nil_iff, next_defer, next_val, next_skip, next_call, next_panic, wantedV, arr_toList, arr_get?, put, Option.bind_some, Option.map_some, Option.getD_some, Option.getD_none, Option.map_none, evOp_move, evOp_assign, evOp_pick, evOp_alloc, evOp_box, evOp_build, evOp_buildSlice, evOp_load, evOp_store, evOp_nilCheck, evOp_binOp, evOp_unOp, evOp_convert, evOp_makeInterface, evOp_makeFunc, evOp_makeSlice, evOp_slice, evOp_fieldAddr, evOp_field, evOp_indexAddr, evOp_index, evOp_extract, evOp_typeAssert, evOp_call, evOp_defer, evOp_panic, opd, ofValue, ofCell, Tm.get_setb, cond_true, cond_false, Nat.reduceBEq, ne_eq, Nat.reduceEqDiff, not_false_eq_true, ↓reduceIte, if_true, if_false, Option.isNone_none, Bool.and_self, Bool.and_true, beq_self_eq_true, filled_rs, filled_nilS, mapOpd, List.map_cons, List.map_nil, bin, intBin, un, idx, Go.Ev.builtin, calleeOf, List.getElem?_toArray, List.toList_toArray, filled_int, filled_bool, filled_str, filled_sl, filled_ifc, filled_nilI, filled_rs, filled_ptr, filled_fn, filled_nilS, snaps_nil, snaps_cons, snap_int, snap_bool, snap_str, snap_sl, snap_nilS, snap_ifc, snap_nilI, snap_rs, snap_ptr, snap_cptr, snap_fn, frzs_nil, frzs_cons, frz_int, frz_bool, frz_str, frz_sl, frz_nilS, frz_ifc, frz_nilI, frz_ptr, frz_cptr, frz_fn, frz_rs, unNil_int, unNil_bool, unNil_str, unNil_sl, unNil_ifc, unNil_nilI, unNil_ptr, unNil_fn, unNil_rs, unNil_nilS, Nat.lt_irrefl, V.isNilS, V.depthOk, depth1, V.ok1, setElem, Nat.zero_add, Nat.add_zero, Nat.mul_one, Nat.one_mul, Mem.newRef_eq, Mem.gen_nil, Mem.gen_new, Mem.gen_set, Mem.row_new, Mem.row_setW, Mem.new_out, Mem.set_out, List.length_nil, List.length_cons, Nat.zero_le, Nat.le_refl, Nat.reduceLeDiff, Nat.reduceAdd, and_self, and_true, true_and, List.set_cons_zero, List.set_cons_succ, false_and, and_false, or_false, false_or, or_true, true_or, List.any_cons, List.any_nil, Bool.or_false, Bool.false_or, Bool.or_true, Bool.true_or, List.isEmpty_nil, List.isEmpty_cons, refs_int, refs_bool, refs_str, refs_sl, refs_ifc, refs_nilI, refs_ptr, refs_rs, refs_fn, refs_agg, loose_int, loose_bool, loose_str, loose_sl, loose_ifc, loose_nilI, loose_nilS, loose_ptr, loose_rs, loose_fn, pick, Go.Ev.part, width_int, width_bool, width_str, width_sl, width_rs, width_nilS, width_nilI, width_ifc, width_ptr, width_cptr, width_fn, width_agg, V.isAgg, V.cells, Int.toNat_natCast, Nat.reduceAdd, Nat.reduceMul, Nat.reduceSub, Nat.reduceLeDiff, Nat.reduceBEq, Nat.reduceLT, Int.reduceAdd, Int.reduceSub, Int.reduceMul, Int.reduceLT, Int.reduceLE, Int.reduceToNat, Int.reduceNeg, ite_yes, beq_iff_eq, decide_eq_true_eq, List.nil_append, List.append_nil, Option.some.injEq, if_true, if_false, ite_true, ite_false, reduceIte, reduceCtorEq, Bool.false_eq_true, decide_true, decide_false, List.getElem?_cons_zero, List.getElem?_cons_succ, beq_self_eq_true, and_self, and_true, true_and, Bool.not_true, Bool.not_false, isConst, ↓reduceIte, WD_nil, WD_cons, nextD_val, nextD_skip, nextD_call, footD_def, fok_idle, Foot_none, foot_load, foot_store, foot_assign, foot_alloc, foot_box, foot_build, foot_makeSlice, foot_buildSlice, foot_makeFunc, foot_append, foot_len, foot_min, foot_max, foot_call, foot_move, foot_pick, foot_binOp, foot_unOp, foot_convert, foot_nilCheck, foot_makeInterface, foot_slice, foot_fieldAddr, foot_field, foot_indexAddr, foot_index, foot_extract, rowsOf_int, rowsOf_bool, rowsOf_str, rowsOf_sl, rowsOf_nilS, rowsOf_cptr, rowsOf_ifc, rowsOf_fn, rowsOf_ptr, rowsOf_rs, ptrs_int, ptrs_bool, ptrs_str, ptrs_sl, ptrs_rs, ptrs_nilS, ptrs_ifc, ptrs_ptr, ptrs_fn, List.flatMap_cons, List.flatMap_nil, List.any_cons, List.any_nil, Bool.or_false, Bool.false_or, Bool.or_true, Bool.true_or, List.isEmpty_nil, Bool.not_true, List.cons_append, List.nil_append, X_P, Tryd.underlying3, c3, b3, a3, k3, z3, Tryd.underlying4, c4, b4, a4, k4, z4, Tryd.underlying5, c5, b5, a5, k5, z5, Tryd.underlying9, c9, b9, a9, k9, z9, Tryd.underlying20, c20, b20, a20, k20, Tryd.underlying22, c22, b22, a22, k22, z22, e22, Tryd.underlying23, c23, b23, a23, k23, z23, Tryd.underlying32, c32, b32, a32, k32, z32, p32, Tryd.underlying45, c45, b45, a45, k45, z45, e45, Tryd.underlying54, c54, b54, a54, k54, z54, p54, Tryd.underlying61, c61, b61, a61, k61, z61, e61, Tryd.underlying64, c64, b64, a64, k64, z64, e64, Tryd.underlying69, c69, b69, a69, k69, z69, p69, Tryd.underlying76, c76, b76, a76, k76, z76, p76, Tryd.underlying84, c84, b84, a84, k84, z84, p84, Tryd.underlying94, c94, b94, a94, k94, z94, e94, Tryd.underlying95, c95, b95, a95, k95, z95, e95, Tryd.underlying98, c98, b98, a98, k98, z98, p98, Tryd.underlying100, c100, b100, a100, k100, z100, p100, Tryd.underlying116, c116, b116, a116, k116, z116, e116, Tryd.underlying119, c119, b119, a119, k119, z119, p119, Tryd.underlying142, c142, b142, a142, k142, z142, p142, Tryd.underlying143, c143, b143, a143, k143, z143, p143, Tryd.underlying152, c152, b152, a152, k152, z152, p152, Tryd.underlying154, c154, b154, a154, k154, z154, Tryd.underlying157, c157, b157, a157, k157, z157, e157, Tryd.underlying159, c159, b159, a159, k159, z159, p159, cut_one, cut_nats, nats_snoc, nats_length, nats_width, ints_width, maxLen_eq, appendTo, elemsOf, fillElems, elemOk, List.zip_cons_cons, List.zip_nil_left, List.zip_nil_right, List.replicate_one, List.all_cons, List.all_nil, Option.isSome_some, Nat.le_refl, List.length_append, List.map_cons, List.map_nil, Bool.and_true, Bool.true_and, bounds, loOf, hiOf, Bool.not_false, wc_length, wc_get, wc_splice, wc_loose, wc_nil, wc_zero, wc_take, filled_wc, snap_wc, frz_wc, rowsOf_wc, ptrs_wc, mv_wc, mv2_wc, depth_wc, unNil_wc, wc_nilIn, nats_zero, h0, h1, hm]
       repeat (refine ⟨by decide +kernel, ?_⟩)
       refine hK _ _ ?_
       clear hK K))
  refine W_loopg (fun (x : List Nat × Nat) s => s.dfs = [] ∧ s.m.out.length = 0 ∧ s.t.get 2 = .ptr ⟨0, 2, 0, 1⟩ 0 0 ∧ s.t.get 5 = .ptr ⟨0, 5, 0, 1⟩ 0 0 ∧ s.t.get 6 = .rs ⟨0, 13, 0, 1⟩ 3 0 ps.length ∧
    s.t.get 14 = .sl (nats ps) ∧ s.t.get 15 = vn ps.length ∧ s.t.get 16 = vn x.1.length ∧
    s.m.row ⟨0, 2, 0, 1⟩ = some ⟨1, 100, false, false, [wv (x.2 * 60 ^ 72)]⟩ ∧ s.m.row ⟨0, 5, 0, 1⟩ = some ⟨1, 100, false, false, [.agg (wc fun _ => 0)]⟩ ∧
    s.m.row ⟨0, 13, 0, 1⟩ = some ⟨1, 3, true, false, nats (x.1 ++ List.replicate (ps.length - x.1.length) 0)⟩ ∧ x.1.length ≤ ps.length ∧
    splitF ps N = (x.1 ++ (splitF (ps.drop x.1.length) x.2).1, (splitF (ps.drop x.1.length) x.2).2) ∧ 0 < x.2 ∧ x.2 < 60 ^ 90) (fun x => ps.length - x.1.length) ([], N) ?_ ?_
  · refine ⟨hd, ?_, ?_, ?_, ?_, ?_, ?_, ?_, ?_, ?_, ?_, Nat.zero_le _, by simp, hN, hb⟩
    all_goals (try refine fW (aI @h0 <|aI @h1 <|@hm) ?_);all_goals try exact True.intro
    all_goals first | rfl | simp
  clear hd ho hm h0 h1 hN hb
  rintro ⟨done, C⟩ s ⟨hd, ho, h2, h5, h6, h14, h15, h16, r2, r5, r13, hle, hsp, hC0, hCb⟩
  dsimp only at h16 r2 r13 hle hsp hC0 hCb
  refine gP (aI @h14 <|aI @h15 <|@h16) ?_
  refine cnd (fun h => ?_) (fun h => ?_)
  · have h := of_decide_eq_true h
    have hlt : done.length < ps.length := by omega
    obtain ⟨p, hp⟩ : ∃ p, ps[done.length]? = some p := ⟨ps[done.length], by simp⟩
    obtain ⟨hp1, hp2⟩ := hps p (List.mem_of_getElem? hp)
    have q1 := Q101 C p hCb (by omega) (by omega)
    have hdrop : ps.drop done.length = p :: ps.drop (done.length + 1) := by
      rw [List.drop_eq_getElem_cons hlt]
      congr 1
      rw [List.getElem?_eq_getElem hlt] at hp
      exact Option.some.inj hp
    rw [hdrop, splitF_cons] at hsp
    refine gPSW (aI @nats_get? <|aI @hp <|aI @h2 <|aI @h5 <|aI @h6 <|aI @h14 <|aI @h15 <|aI @h16 <|aI @r2 <|aI @r5 <|aI @r13 <|aI @ho <|aI @co101 <|aI @sr101 <|@q1.iffx) ?_
    refine W_loopg (fun (x : Nat × Nat) s => s.dfs = [] ∧ s.m.out.length = 0 ∧ s.t.get 2 = .ptr ⟨0, 2, 0, 1⟩ 0 0 ∧ s.t.get 5 = .ptr ⟨0, 5, 0, 1⟩ 0 0 ∧ s.t.get 6 = .rs ⟨0, 13, 0, 1⟩ 3 0 ps.length ∧
      s.t.get 14 = .sl (nats ps) ∧ s.t.get 15 = vn ps.length ∧ s.t.get 16 = vn done.length ∧ s.t.get 7 = vn done.length ∧ s.t.get 8 = vn p ∧
      (∃ g, s.t.get 9 = .ptr ⟨0, 9, 0, g⟩ 0 0 ∧ s.m.row ⟨0, 9, 0, g⟩ = some ⟨g, 100, false, false, [wv (x.2 / p * 60 ^ 72)]⟩) ∧ s.t.get 10 = vn (x.2 % p) ∧
      s.m.row ⟨0, 2, 0, 1⟩ = some ⟨1, 100, false, false, [wv (x.2 * 60 ^ 72)]⟩ ∧ s.m.row ⟨0, 5, 0, 1⟩ = some ⟨1, 100, false, false, [.agg (wc fun _ => 0)]⟩ ∧
      s.m.row ⟨0, 13, 0, 1⟩ = some ⟨1, 3, true, false, nats (done ++ x.1 :: List.replicate (ps.length - (done.length + 1)) 0)⟩ ∧
      mult p C = x.1 + mult p x.2 ∧ rem p C = rem p x.2 ∧ 0 < x.2 ∧ x.2 < 60 ^ 90 ∧ C = x.2 * p ^ x.1) (fun x => x.2) (0, C) ?_ ?_
    · refine ⟨hd, ?_, ?_, ?_, ?_, ?_, ?_, ?_, ?_, ?_, ⟨s.m.gen 9 0 + 1, ?_, ?_⟩, ?_, ?_, ?_, ?_, by simp, rfl, hC0, hCb, by simp⟩
      all_goals (try refine fW (aI @h2 <|aI @h5 <|aI @h6 <|aI @h14 <|aI @h15 <|aI @h16 <|aI @r2 <|aI @r5 <|aI @r13 <|@ho) ?_);all_goals try exact True.intro
      rw [show ps.length - done.length = (ps.length - (done.length + 1)) + 1 by omega, List.replicate_succ]
    clear hd ho h2 h5 h6 h14 h15 h16 r2 r5 r13 q1
    rintro ⟨c, D⟩ s ⟨hd, ho, h2, h5, h6, h14, h15, h16, h7, h8, ⟨g, h9, r9⟩, h10, r2, r5, r13, hmu, hre, hD0, hDb, hCD⟩
    dsimp only at r9 h10 r2 r13 hmu hre hD0 hDb hCD
    refine gP @h10 ?_
    refine cnd (fun h => ?_) (fun h => ?_)
    · have h : D % p = 0 := by have h' := eq_of_beq h; omega
      have hDp0 : 0 < D / p := Nat.div_pos (Nat.le_of_dvd hD0 (Nat.dvd_of_mod_eq_zero h)) (by omega)
      have hDpb : D / p < 60 ^ 90 := Nat.lt_of_le_of_lt (Nat.div_le_self _ _) hDb
      have q2 := Q101 (D / p) p hDpb (by omega) (by omega)
      have hCe : C = D / p * p ^ (c + 1) := by
        rw [Nat.pow_succ, Nat.mul_comm (p ^ c), ← Nat.mul_assoc, Nat.div_mul_cancel (Nat.dvd_of_mod_eq_zero h)]; exact hCD
      have hc : c + 1 < 540 := by
        have g2 : p ^ (c + 1) ≤ C := by rw [hCe]; exact Nat.le_mul_of_pos_left _ hDp0
        have g3 := mult_bound 90 hp1 g2 hCb
        omega
      have hg : (done ++ c :: List.replicate (ps.length - (done.length + 1)) 0)[done.length]? = some c := by
        rw [List.getElem?_append_right (Nat.le_refl _), Nat.sub_self]; rfl
      have hset : (done ++ c :: List.replicate (ps.length - (done.length + 1)) 0).set done.length (c + 1) = done ++ (c + 1) :: List.replicate (ps.length - (done.length + 1)) 0 := by
        rw [List.set_append_right _ _ (Nat.le_refl _), Nat.sub_self]; rfl
      have hmu' := mult_yes hp1 hD0 h
      have hre' := rem_yes hp1 hD0 h
      clear hCD hsp hdrop hle
      refine gPSWC (aI @nats_get? <|aI @nats_set <|aI @hg <|aI @hset <|aI @h2 <|aI @h5 <|aI @h6 <|aI @h7 <|aI @h8 <|aI @h9 <|aI @h10 <|aI @r2 <|aI @r5 <|aI @r9 <|aI @r13 <|aI @ho <|aI @co101 <|aI @sr101 <|@q2.iffx) ?_
      refine ⟨(c + 1, D / p), ⟨hd, ?_, ?_, ?_, ?_, ?_, ?_, ?_, ?_, ?_, ⟨s.m.gen 9 0 + 1, ?_, ?_⟩, ?_, ?_, ?_, ?_, by dsimp only; omega, by dsimp only; rw [hre, hre'], hDp0, hDpb, hCe⟩, Nat.div_lt_self hD0 hp1⟩
      all_goals (try refine fW (aI @h2 <|aI @h5 <|aI @h6 <|aI @h7 <|aI @h8 <|aI @h14 <|aI @h15 <|aI @h16 <|aI @r5 <|aI @ho <|@hset) ?_);all_goals try exact True.intro
    · have h : D % p ≠ 0 := by have h' := ne_of_beq_false h; omega
      rw [mult_no h, Nat.add_zero] at hmu
      rw [rem_no h] at hre
      refine gPC @h16 ?_
      refine ⟨(done ++ [mult p C], rem p C), ⟨hd, ?_, ?_, ?_, ?_, ?_, ?_, ?_, ?_, ?_, ?_, ?_, ?_, ?_, ?_⟩, ?_⟩
      all_goals (try refine fW (aI @h2 <|aI @h5 <|aI @h6 <|aI @h14 <|aI @h15 <|aI @h16 <|aI @r2 <|aI @r5 <|aI @r13 <|aI @ho <|aI @hmu <|aI @hre <|aI @List.length_append.{0} <|aI @List.length_cons.{0} <|aI @List.length_nil.{0} <|aI @Nat.zero_add <|aI @List.append_assoc.{0} <|aI @List.cons_append.{0} <|@List.nil_append.{0}) ?_);all_goals try exact True.intro
      · omega
      · rw [hsp, hmu, hre]
      · exact hD0
      · exact hDb
      · omega
  · have h := of_decide_eq_false h
    have hdl : done.length = ps.length := by omega
    rw [List.drop_eq_nil_of_le (by omega)] at hsp
    simp only [splitF, List.append_nil] at hsp
    rw [hdl, Nat.sub_self, List.replicate_zero, List.append_nil] at r13
    have hcut : cut (nats done) 0 ps.length = nats done := by rw [← hdl]; exact cut_nats _
    rw [hsp]
    refine gPASW (aI @h2 <|aI @h5 <|aI @h6 <|aI @r2 <|aI @r5 <|aI @r13 <|aI @ho <|aI @hdl <|@hcut) ?_
    refine rPASW hd (aI @Tryd.results87 <|aI @h2 <|aI @h5 <|aI @h6 <|aI @r2 <|aI @r5 <|aI @r13 <|aI @ho <|aI @hdl <|@hcut) ?_
    try exact True.intro
end Go.Proofs.YtpocekfifokndaaDoor
namespace Go.Proofs.YtpocekfifokndaaDoor
open Go Go.Ev Go.Pl
set_option maxRecDepth 100000
set_option maxHeartbeats 4000000
def regS (a : List Int) : Nat × Nat × Nat × Int :=
  if chk a ≠ 0 then (0, 0, 0, chk a) else if a.length = 0 then (0, 0, 0, 9) else
  if (splitF [2, 3, 5] (numI a)).2 ≠ 1 then (0, 0, 0, 31) else (mult 2 (numI a), mult 3 (rem 2 (numI a)), mult 5 (rem 3 (rem 2 (numI a))), 0)
theorem numI_pos {a : List Int} (h : chk a = 0) (hl : a.length ≠ 0) : 0 < numI a := by
  obtain ⟨h1, h2, h3, h4, h5⟩ := chk_ok h
  rcases Nat.eq_zero_or_pos (numI a) with h0 | h0
  · exfalso
    have hlt : ∀ d ∈ (natsOf a).reverse, d < 60 := fun d hd => h2 d (List.mem_reverse.1 hd)
    obtain ⟨d, hd⟩ : ∃ d, a[0]? = some d := ⟨a[0]'(by omega), by simp⟩
    have hn : (natsOf a)[0]? = some d.toNat := by rw [natsOf, List.getElem?_map, hd]; rfl
    have hdig := num_dig hlt (a.length - 1)
    rw [show numL (natsOf a).reverse = 0 from h0, List.getD_eq_getElem?_getD, List.getElem?_reverse (by omega), show (natsOf a).length - 1 - (a.length - 1) = 0 by omega, hn] at hdig
    have hz : d.toNat = 0 := by simpa [dig] using hdig.symm
    have hne := (h5 (by omega)).1
    have hd0 : d ≠ 0 := fun e => hne (by rw [hd, e])
    have hdi : ints a = nats (natsOf a) := h1
    have := congrArg (fun l => l[0]?) hdi
    simp only [ints_get?, nats_get?, hd, hn, Option.map_some, Option.some.injEq, V.int.injEq, true_and] at this
    omega
  · exact h0
theorem cut3 (a b c : V) : cut [a, b, c] 0 3 = [a, b, c] := rfl
theorem rep3 (v : V) : List.replicate 3 v = [v, v, v] := rfl
theorem P31 (a : List Int) : Ans X 31 [.sl (ints a)] (.ret (.tup [vn (regS a).1, vn (regS a).2.1, vn (regS a).2.2.1, vi (regS a).2.2.2])) := by
  refine call_of_X (fn := Tryd.f31) 1 Tryd.func31 rfl (by decide +kernel) rfl ?_ ?_ ?_ ?_
  · rfl
  · exact fun _ => rfl
  · intro v hv; injection hv with hv; subst hv; rfl
  intro s hs hd ho
  have hm : s.m = ⟨.nil, []⟩ := by subst hs; rfl
  have h0 : s.t.get 0 = .sl (ints a) := by subst hs; rfl
  clear hs
  refine gP (aI @h0 <|aI @hm <|aI @co28 <|aI @sr28 <|((P28 a).iffx)) ?_
  refine cnd (fun h => ?_) (fun h => ?_)
  · have h : chk a ≠ 0 := by simpa using h
    refine gP @Nat.zero_add ?_
    refine rP hd @Tryd.results31 ?_
    try exact True.intro
    rw [regS, if_pos h]; rfl
  have hc : chk a = 0 := by simpa using h
  refine gP (aI @h0 <|aI @hm <|@ints_length) ?_
  refine cnd (fun h => ?_) (fun h => ?_)
  · have h : a.length = 0 := by have h' := eq_of_beq h; omega
    refine gP @Nat.zero_add ?_
    refine rP hd @Tryd.results31 ?_
    try exact True.intro
    rw [regS, if_neg (fun e => e hc), if_pos h]; rfl
  have hl : a.length ≠ 0 := by have h' := ne_of_beq_false h; omega
  obtain ⟨b1, b2, b3, b4, _⟩ := chk_ok hc
  rw [b1] at h0
  have hN := numI_pos hc hl
  have hb := numI_lt hc
  have q1 : Ans X 86 [.sl (nats (natsOf a)), vi 0] (.ret (wv (numI a * 60 ^ 72))) := P86 (natsOf a) 0 72 rfl b2 (by omega)
  have q2 : Ans X 87 [wv (numI a * 60 ^ 72), .sl [vi 2, vi 3, vi 5]] _ := P87 [2, 3, 5] (numI a) (by intro p hp; simp at hp; omega) (by decide) hN (lt_pow_mono hb (by decide))
  have q3 : Ans X 88 [vi 1] (.ret (wv (1 * 60 ^ 72))) := P88 1 (by decide)
  have hR : (splitF [2, 3, 5] (numI a)).2 ≤ numI a := by
    simp only [splitF]
    exact Nat.le_trans (rem_le _ _) (Nat.le_trans (rem_le _ _) (rem_le _ _))
  have hT : (splitF [2, 3, 5] (numI a)).1 = [mult 2 (numI a), mult 3 (rem 2 (numI a)), mult 5 (rem 3 (rem 2 (numI a)))] := rfl
  rw [hT] at q2
  clear h b1 b2 b3 b4
  have hRb : (splitF [2, 3, 5] (numI a)).2 < 60 ^ 16 := Nat.lt_of_le_of_lt hR hb
  generalize hRe : (splitF [2, 3, 5] (numI a)).2 = R at q2 hRb
  have hE : allEq (dig (R * 60 ^ 72)) (dig (1 * 60 ^ 72)) 168 0 = decide (R = 1) := by
    rw [allEq_dig (by
      calc R * 60 ^ 72 < 60 ^ 16 * 60 ^ 72 := Nat.mul_lt_mul_of_pos_right hRb (by decide)
        _ ≤ 60 ^ 168 := by decide) (by decide)]
    rw [decide_eq_decide, Nat.one_mul]
    constructor
    · intro e
      have e' : R * 60 ^ 72 = 1 * 60 ^ 72 := by rw [Nat.one_mul]; exact e
      exact Nat.eq_of_mul_eq_mul_right (pow_pos 72) e'
    · rintro rfl; rw [Nat.one_mul]
  rw [show (1 * 60 ^ 72 : Nat) = 60 ^ 72 from Nat.one_mul _] at hE q3
  clear hR hb hN
  refine gPSW (aI @h0 <|aI @hm <|aI @rep3 <|aI @cut3 <|aI @ints_length <|aI @co86 <|aI @sr86 <|aI @co87 <|aI @sr87 <|aI @co88 <|aI @sr88 <|aI @q1.iffx <|aI @q2.iffx <|aI @q3.iffx <|aI @eqOk100 <|aI @eqT100 <|@hE) ?_
  refine cnd (fun h => ?_) (fun h => ?_)
  · have h : R ≠ 1 := by simpa using h
    refine gP @Nat.zero_add ?_
    refine rP hd @Tryd.results31 ?_
    try exact True.intro
    rw [regS, if_neg (fun e => e hc), if_neg hl, if_pos (by rw [hRe]; exact h)]; rfl
  · have h : R = 1 := by simpa using h
    refine gPS (@nats_get?) ?_
    refine rP hd @Tryd.results31 ?_
    try exact True.intro
    rw [regS, if_neg (fun e => e hc), if_neg hl, if_neg (by rw [hRe]; exact fun e => e h)]
end Go.Proofs.YtpocekfifokndaaDoor
namespace Go.Proofs.YtpocekfifokndaaDoor
open Go Go.Ev Go.Pl
set_option maxRecDepth 100000
set_option maxHeartbeats 4000000
theorem P89 (i j k : Nat) (hi : i < 200) (hj : j < 200) (hk : k < 200) (hb : invW i j k < 60 ^ 90) (o1 oM : Go.Ev.Rows) (r : Res) (hr : placeRes (invW i j k * 60 ^ 72) = r)
    (R : Res) (hR : (∃ es sh, r = .ret (.agg [.sl (nats es), vi sh]) ∧ R = .ret (.sl (nats es))) ∨ (∃ e, r = .panic (.ifc 23 (vi e)) ∧ R = .panic (.ifc 23 (vi e))))
    (hA : (⟨oM, []⟩ : Mem).row ⟨0, 4, 0, 1⟩ = some ⟨1, 3, false, false, [vn i]⟩) (hB : (⟨oM, []⟩ : Mem).row ⟨0, 5, 0, 1⟩ = some ⟨1, 3, false, false, [vn j]⟩) (hC : (⟨oM, []⟩ : Mem).row ⟨0, 6, 0, 1⟩ = some ⟨1, 3, false, false, [vn k]⟩) :
    AnsAt X 89 [.ptr ⟨0, 4, 0, 1⟩ 0 0, .ptr ⟨0, 5, 0, 1⟩ 0 0, .ptr ⟨0, 6, 0, 1⟩ 0 0] [o1, oM] R := by
  refine ⟨rfl, rfl, fun v hv => ?_, ?_⟩
  · rcases hR with ⟨es, sh, _, rfl⟩ | ⟨e, _, rfl⟩
    · injection hv with hv; subst hv; rfl
    · cases hv
  refine runsAt_of (X := X) (fn := Tryd.f89) Tryd.func89 rfl ⟨by decide +kernel, Nat.le_of_ble_eq_true rfl⟩ ?_
  have hd : (enter [V.ptr ⟨0, 4, 0, 1⟩ 0 0, V.ptr ⟨0, 5, 0, 1⟩ 0 0, V.ptr ⟨0, 6, 0, 1⟩ 0 0] [o1, oM]).dfs = [] := rfl
  have h0 : (enter [V.ptr ⟨0, 4, 0, 1⟩ 0 0, V.ptr ⟨0, 5, 0, 1⟩ 0 0, V.ptr ⟨0, 6, 0, 1⟩ 0 0] [o1, oM]).t.get 0 = .ptr ⟨0, 4, 0, 1⟩ 0 0 := rfl
  have h1 : (enter [V.ptr ⟨0, 4, 0, 1⟩ 0 0, V.ptr ⟨0, 5, 0, 1⟩ 0 0, V.ptr ⟨0, 6, 0, 1⟩ 0 0] [o1, oM]).t.get 1 = .ptr ⟨0, 5, 0, 1⟩ 0 0 := rfl
  have h2 : (enter [V.ptr ⟨0, 4, 0, 1⟩ 0 0, V.ptr ⟨0, 5, 0, 1⟩ 0 0, V.ptr ⟨0, 6, 0, 1⟩ 0 0] [o1, oM]).t.get 2 = .ptr ⟨0, 6, 0, 1⟩ 0 0 := rfl
  have hm : (enter [V.ptr ⟨0, 4, 0, 1⟩ 0 0, V.ptr ⟨0, 5, 0, 1⟩ 0 0, V.ptr ⟨0, 6, 0, 1⟩ 0 0] [o1, oM]).m = ⟨.nil, [o1, oM]⟩ := rfl
  generalize enter [V.ptr ⟨0, 4, 0, 1⟩ 0 0, V.ptr ⟨0, 5, 0, 1⟩ 0 0, V.ptr ⟨0, 6, 0, 1⟩ 0 0] [o1, oM] = s at *
  have hA' : (⟨.nil, [o1, oM]⟩ : Mem).row ⟨0, 4, 0, 1⟩ = some ⟨1, 3, false, false, [vn i]⟩ := by rw [row_outer _ _ _ _ (by simp), row_outer _ _ _ _ (by simp), hA]
  have hB' : (⟨.nil, [o1, oM]⟩ : Mem).row ⟨0, 5, 0, 1⟩ = some ⟨1, 3, false, false, [vn j]⟩ := by rw [row_outer _ _ _ _ (by simp), row_outer _ _ _ _ (by simp), hB]
  have hC' : (⟨.nil, [o1, oM]⟩ : Mem).row ⟨0, 6, 0, 1⟩ = some ⟨1, 3, false, false, [vn k]⟩ := by rw [row_outer _ _ _ _ (by simp), row_outer _ _ _ _ (by simp), hC]
  have q1 := P90 i j k hi hj hk hb
  have q2 := P81 (invW i j k * 60 ^ 72) (by
    calc invW i j k * 60 ^ 72 < 60 ^ 90 * 60 ^ 72 := Nat.mul_lt_mul_of_pos_right hb (by decide)
      _ ≤ 60 ^ 168 := by decide)
  rw [hr] at q2
  clear hb hr
  rcases hR with ⟨es, sh, rfl, rfl⟩ | ⟨e, rfl, rfl⟩
  · refine gPAW (aI @h0 <|aI @h1 <|aI @h2 <|aI @hm <|aI @hA' <|aI @hB' <|aI @hC' <|aI @co90 <|aI @co81 <|aI @sr90 <|aI @sr81 <|aI @q1.iffx <|@q2.iffx) ?_
    refine fin_ret (X := X) (fn := Tryd.f89) (vs := [.sl (nats es)]) hd ?_ rfl rfl
    simp (maxSteps := 2000000) (disch := omega) only [SA, ofValue, ofCell, bin, intBin, un, idx, Go.Ev.builtin, calleeOf, V.isNilS, V.depthOk, depth1, V.ok1, V.isAgg, V.cells, isConst, Nat.reduceBEq, Nat.reduceEqDiff, ↓reduceIte, Nat.reduceLeDiff, Nat.reduceAdd, Nat.reduceMul, Nat.reduceSub, Nat.reduceLT, Int.reduceAdd, Int.reduceSub, Int.reduceMul, Int.reduceLT, Int.reduceLE, Int.reduceToNat, Int.reduceNeg, reduceIte, reduceCtorEq, SPx, Tryd.results89, resVars, resVar]
  · refine gPAW (aI @h0 <|aI @h1 <|aI @h2 <|aI @hm <|aI @hA' <|aI @hB' <|aI @hC' <|aI @co90 <|aI @co81 <|aI @sr90 <|aI @sr81 <|aI @q1.iffx <|@q2.panicsx) ?_
    exact fin_panic hd rfl rfl
end Go.Proofs.YtpocekfifokndaaDoor
namespace Go.Proofs.YtpocekfifokndaaDoor
open Go Go.Ev Go.Pl
set_option maxRecDepth 100000
set_option maxHeartbeats 4000000
theorem reg_spec {a : List Int} (h : (regS a).2.2.2 = 0) : chk a = 0 ∧ a.length ≠ 0 ∧ numI a = 2 ^ (regS a).1 * 3 ^ (regS a).2.1 * 5 ^ (regS a).2.2.1 := by
  unfold regS at h ⊢
  by_cases hc : chk a = 0
  · rw [if_neg (fun e => e hc)] at h ⊢
    by_cases hl : a.length = 0
    · rw [if_pos hl] at h; simp at h
    · rw [if_neg hl] at h ⊢
      by_cases hs : (splitF [2, 3, 5] (numI a)).2 = 1
      · rw [if_neg (fun e => e hs)]
        refine ⟨hc, hl, ?_⟩
        have h0 := numI_pos hc hl
        obtain ⟨e2, p2, _⟩ := rem_spec (p := 2) (by decide) h0
        obtain ⟨e3, p3, _⟩ := rem_spec (p := 3) (by decide) p2
        obtain ⟨e5, p5, _⟩ := rem_spec (p := 5) (by decide) p3
        simp only [splitF] at hs
        rw [hs, Nat.one_mul] at e5
        dsimp only
        rw [← Nat.mul_comm (5 ^ _), ← e5, Nat.mul_comm (2 ^ _), ← Nat.mul_assoc, ← e3]
        exact e2
      · rw [if_pos hs] at h; simp at h
  · rw [if_pos hc] at h; exact absurd h hc
theorem pow_lt_of {b n B N : Nat} (hb : 1 < b) (h : b ^ n ≤ N) (hN : N < b ^ B) : n < B := (Nat.pow_lt_pow_iff_right hb).1 (Nat.lt_of_le_of_lt h hN)
theorem reg_bounds {i j k N : Nat} (hN : N < 60 ^ 16) (h : N = 2 ^ i * 3 ^ j * 5 ^ k) : i < 95 ∧ j < 60 ∧ k < 41 := by
  have p2 : 0 < 2 ^ i := Nat.pow_pos (by decide)
  have p3 : 0 < 3 ^ j := Nat.pow_pos (by decide)
  have p5 : 0 < 5 ^ k := Nat.pow_pos (by decide)
  refine ⟨pow_lt_of (b := 2) (N := N) (by decide) ?_ (Nat.lt_trans hN (by decide)), pow_lt_of (b := 3) (N := N) (by decide) ?_ (Nat.lt_trans hN (by decide)), pow_lt_of (b := 5) (N := N) (by decide) ?_ (Nat.lt_trans hN (by decide))⟩
  · rw [h, Nat.mul_assoc]; exact Nat.le_mul_of_pos_right _ (Nat.mul_pos p3 p5)
  · rw [h, Nat.mul_comm (2 ^ i), Nat.mul_assoc]; exact Nat.le_mul_of_pos_right _ (Nat.mul_pos p2 p5)
  · rw [h]; exact Nat.le_mul_of_pos_left _ (Nat.mul_pos p2 p3)
theorem invW_le (i j k : Nat) : invW i j k ≤ 60 ^ invK i j k := by
  unfold invW
  generalize invK i j k = M
  have e : (60 : Nat) ^ M = 2 ^ (2 * M) * 3 ^ M * 5 ^ M := by rw [Nat.pow_mul, ← Nat.mul_pow, ← Nat.mul_pow]
  rw [e]
  exact Nat.mul_le_mul (Nat.mul_le_mul (Nat.pow_le_pow_right (by decide) (by omega)) (Nat.pow_le_pow_right (by decide) (by omega))) (Nat.pow_le_pow_right (by decide) (by omega))
theorem invW_pos (i j k : Nat) : 0 < invW i j k := Nat.mul_pos (Nat.mul_pos (Nat.pow_pos (by decide)) (Nat.pow_pos (by decide))) (Nat.pow_pos (by decide))
def recS (a : List Int) : List Nat × Int :=
  if (regS a).2.2.2 ≠ 0 then ([], (regS a).2.2.2) else
  if 16 < (digB (invW (regS a).1 (regS a).2.1 (regS a).2.2.1)).length then ([], 3) else (digB (invW (regS a).1 (regS a).2.1 (regS a).2.2.1), 0)
theorem placeRes_inv {W : Nat} (hp : 0 < W) (hW : W ≤ 60 ^ 60) : placeRes (W * 60 ^ 72) = if 16 < (digB W).length then .panic (.ifc 23 (vi 3)) else .ret (.agg [.sl (nats (digB W)), vi (vz W)]) := by
  have h1 : W * 60 ^ 72 ≠ 0 := Nat.mul_ne_zero (by omega) (by decide)
  have h2 := vz_lt (n := 61) hp (Nat.lt_of_le_of_lt hW (by decide))
  rw [placeRes, if_neg h1, digB_shift, vz_shift hp]
  have e : ((vz W + 72 : Nat) : Int) - 72 = (vz W : Int) := by omega
  rw [e]
  by_cases hl : 16 < (digB W).length
  · rw [if_pos hl, if_pos (.inl hl)]
  · rw [if_neg hl, if_neg (by omega)]
theorem P32 (a : List Int) : Ans X 32 [.sl (ints a)] (.ret (.tup [.sl (nats (recS a).1), vi (recS a).2])) := by
  refine call_of_X (fn := Tryd.f32) 1 Tryd.func32 rfl (by decide +kernel) rfl ?_ ?_ ?_ ?_
  · rfl
  · intro h; exact absurd h (by rw [sr32]; decide)
  · intro v hv; injection hv with hv; subst hv; rfl
  intro s hs hd ho
  have hm : s.m = ⟨.nil, []⟩ := by subst hs; rfl
  have h0 : s.t.get 0 = .sl (ints a) := by subst hs; rfl
  clear hs
  have key : ∀ (m : Mem) (dst : Nat) (K KP : V → Mem → Prop), m.out = [] → m.row ⟨0, 4, 0, 1⟩ = some ⟨1, 3, false, false, [vn (regS a).1]⟩ → m.row ⟨0, 5, 0, 1⟩ = some ⟨1, 3, false, false, [vn (regS a).2.1]⟩ → m.row ⟨0, 6, 0, 1⟩ = some ⟨1, 3, false, false, [vn (regS a).2.2.1]⟩ →
      (CallQ X 77 [vi (regS a).2.2.2, .fn 89 [] [.ptr ⟨0, 4, 0, 1⟩ 0 0, .ptr ⟨0, 5, 0, 1⟩ 0 0, .ptr ⟨0, 6, 0, 1⟩ 0 0]] m dst K KP ↔ K (.tup [.sl (nats (recS a).1), vi (recS a).2]) m) := by
    rintro ⟨own, out⟩ dst K KP ho r2 r3 r4
    dsimp only at ho
    subst ho
    by_cases h : (regS a).2.2.2 = 0
    · obtain ⟨hc, hl, hN⟩ := reg_spec h
      obtain ⟨bi, bj, bk⟩ := reg_bounds (numI_lt hc) hN
      have hK : invK (regS a).1 (regS a).2.1 (regS a).2.2.1 ≤ 60 := by unfold invK; omega
      have hW : invW (regS a).1 (regS a).2.1 (regS a).2.2.1 ≤ 60 ^ 60 := Nat.le_trans (invW_le _ _ _) (Nat.pow_le_pow_right (by decide) hK)
      have hpr := placeRes_inv (invW_pos (regS a).1 (regS a).2.1 (regS a).2.2.1) hW
      rw [h]
      by_cases hl : 16 < (digB (invW (regS a).1 (regS a).2.1 (regS a).2.2.1)).length
      · rw [if_pos hl] at hpr
        refine AnsAt.iff (m := ⟨own, []⟩) (M77 89 _ own (.panic (.ifc 23 (vi 3))) rfl co89 sr89 (fun o1 => P89 _ _ _ (by omega) (by omega) (by omega) (Nat.lt_of_le_of_lt hW (by decide)) o1 own _ hpr _ (.inr ⟨3, rfl, rfl⟩) r2 r3 r4) _ (.inr ⟨3, rfl, ?_⟩))
        rw [recS, if_neg (fun e => e h), if_pos hl]; rfl
      · rw [if_neg hl] at hpr
        refine AnsAt.iff (m := ⟨own, []⟩) (M77 89 _ own (.ret (.sl (nats (digB (invW (regS a).1 (regS a).2.1 (regS a).2.2.1))))) rfl co89 sr89 (fun o1 => P89 _ _ _ (by omega) (by omega) (by omega) (Nat.lt_of_le_of_lt hW (by decide)) o1 own _ hpr _ (.inl ⟨_, _, rfl, rfl⟩) r2 r3 r4) _ (.inl ⟨_, rfl, ?_⟩))
        rw [recS, if_neg (fun e => e h), if_neg hl]
    · refine AnsAt.iff (m := ⟨own, []⟩) ?_
      have := M77e (regS a).2.2.2 h 89 [.ptr ⟨0, 4, 0, 1⟩ 0 0, .ptr ⟨0, 5, 0, 1⟩ 0 0, .ptr ⟨0, 6, 0, 1⟩ 0 0] own rfl
      rw [recS, if_pos h]; exact this
  refine gPA (aI @h0 <|aI @hm <|aI @co31 <|aI @sr31 <|((P31 a).iffx)) ?_
  with_reducible refine W_region_k ?_
  intro K hK
  simp (maxSteps := 2000000) (disch := omega) only [SA, ofValue, ofCell, bin, intBin, un, idx, Go.Ev.builtin, calleeOf, V.isNilS, V.depthOk, depth1, V.ok1, V.isAgg, V.cells, isConst, Nat.reduceBEq, Nat.reduceEqDiff, ↓reduceIte, Nat.reduceLeDiff, Nat.reduceAdd, Nat.reduceMul, Nat.reduceSub, Nat.reduceLT, Int.reduceAdd, Int.reduceSub, Int.reduceMul, Int.reduceLT, Int.reduceLE, Int.reduceToNat, Int.reduceNeg, reduceIte, reduceCtorEq, SPx, SAx, hm, co77, sr77]
  rw [key _ _ _ _ rfl (by simp [Mem.row_new, Mem.row_setW, Mem.new_out, Mem.gen_new, Mem.gen_nil]) (by simp [Mem.row_new, Mem.row_setW, Mem.new_out, Mem.gen_new, Mem.gen_nil]) (by simp [Mem.row_new, Mem.row_setW, Mem.new_out, Mem.gen_new, Mem.gen_nil])]
  simp (maxSteps := 2000000) (disch := omega) only [SA, ofValue, ofCell, bin, intBin, un, idx, Go.Ev.builtin, calleeOf, V.isNilS, V.depthOk, depth1, V.ok1, V.isAgg, V.cells, isConst, Nat.reduceBEq, Nat.reduceEqDiff, ↓reduceIte, Nat.reduceLeDiff, Nat.reduceAdd, Nat.reduceMul, Nat.reduceSub, Nat.reduceLT, Int.reduceAdd, Int.reduceSub, Int.reduceMul, Int.reduceLT, Int.reduceLE, Int.reduceToNat, Int.reduceNeg, reduceIte, reduceCtorEq, SPx, SAx]
  refine hK _ _ ?_
  clear hK K
  refine gP @Nat.zero_add ?_
  refine rP hd @Tryd.results32 ?_
  try exact True.intro
end Go.Proofs.YtpocekfifokndaaDoor
namespace Go.Proofs.YtpocekfifokndaaDoor
open Go Go.Ev Go.Pl
set_option maxRecDepth 100000
set_option maxHeartbeats 4000000
theorem wr_u8 {n : Nat} (h : n < 256) : wr .u8 (n : Int) = (n : Int) := by
  simp only [wr, IntKind.wrap]
  have e : IntKind.u8.signed = false := by decide
  have e2 : IntKind.u8.bits = 8 := by decide
  rw [e, e2, Bool.false_and, if_neg (by decide)]
  omega
def decV (l : List UInt8) : Nat := l.foldl (fun n b => 10 * n + (b.toNat - 48)) 0
def partS (s : List UInt8) : Nat × Bool :=
  if s.length = 0 ∨ 2 < s.length ∨ (s.length = 2 ∧ s[0]? = some 48) then (0, false) else
  if s.all (fun b => decide (48 ≤ b.toNat) && decide (b.toNat ≤ 57)) = true then (decV s, true) else (0, false)
theorem decV_lt : ∀ (l : List UInt8), l.length ≤ 2 → (∀ b ∈ l, 48 ≤ b.toNat ∧ b.toNat ≤ 57) → decV l < 100
  | [], _, _ => by decide
  | [a], _, h => by have := h a (by simp); simp [decV]; omega
  | [a, b], _, h => by have h1 := h a (by simp); have h2 := h b (by simp); simp [decV]; omega
  | a :: b :: c :: l, h, _ => by simp at h
theorem P92 (s : List UInt8) (hs0 : s.length < 1000000000000) : Ans X 92 [.str s] (.ret (.tup [vn (partS s).1, .bool (partS s).2])) := by
  refine call_of_X (fn := Tryd.f92) 1 Tryd.func92 rfl (by decide +kernel) rfl ?_ ?_ ?_ ?_
  · rfl
  · exact fun _ => rfl
  · intro v hv; injection hv with hv; subst hv; rfl
  intro st hs hd ho
  have h0 : st.t.get 0 = .str s := by subst hs; rfl
  clear hs
  by_cases c1 : s.length = 0
  · have c1' : (((s.length : Nat) : Int) == 0) = true := by rw [c1]; rfl
    refine gP (aI @h0 <|@c1') ?_
    refine cnd (fun h => ?_) (fun h => ?_)
    · refine gP @Nat.zero_add ?_
      refine rP hd @Tryd.results92 ?_
      try exact True.intro
      rw [partS, if_pos (.inl c1)]; rfl
    · simp at h
  have c1' : (((s.length : Nat) : Int) == 0) = false := by rw [beq_eq_false_iff_ne]; omega
  by_cases c2 : 2 < s.length
  · have c2' : ((s.length : Nat) : Int) > 2 := by omega
    refine gP (aI @h0 <|aI @c1' <|@c2') ?_
    refine cnd (fun h => ?_) (fun h => ?_)
    · refine gP @Nat.zero_add ?_
      refine rP hd @Tryd.results92 ?_
      try exact True.intro
      rw [partS, if_pos (.inr (.inl c2))]; rfl
    · simp at h
  have c2' : ¬ ((s.length : Nat) : Int) > 2 := by omega
  obtain ⟨b0, hb0⟩ : ∃ b, s[0]? = some b := ⟨s[0]'(by omega), by simp⟩
  by_cases c3 : s.length = 2 ∧ b0 = 48
  · have c3' : (((s.length : Nat) : Int) == 2) = true := by rw [c3.1]; rfl
    have c4 : (((b0.toNat : Nat) : Int) == 48) = true := by rw [c3.2]; rfl
    have hR : partS s = (0, false) := by rw [partS, if_pos (.inr (.inr ⟨c3.1, by rw [hb0, c3.2]⟩))]
    rw [hR]
    clear c3 hR c1 c2
    refine gP (aI @h0 <|aI @c1' <|aI @c2' <|aI @c3' <|aI @hb0 <|@c4) ?_
    refine cnd (fun h => ?_) (fun h => ?_)
    · refine gP @Nat.zero_add ?_
      refine rP hd @Tryd.results92 ?_
      try exact True.intro
      rfl
    · simp at h
  have hc : ¬ (s.length = 0 ∨ 2 < s.length ∨ (s.length = 2 ∧ s[0]? = some 48)) := by
    rintro (h | h | ⟨h, h'⟩)
    · exact c1 h
    · exact c2 h
    · rw [hb0] at h'; exact c3 ⟨h, Option.some.inj h'⟩
  have hyes : s.all (fun b => decide (48 ≤ b.toNat) && decide (b.toNat ≤ 57)) = true → partS s = (decV s, true) := fun h => by rw [partS, if_neg hc, if_pos h]
  have hno : ∀ (k : Nat) (b : UInt8), s[k]? = some b → ¬ (48 ≤ b.toNat ∧ b.toNat ≤ 57) → partS s = (0, false) := fun k b hk hb => by
    rw [partS, if_neg hc, if_neg]
    intro h
    have := List.all_eq_true.1 h b (List.mem_of_getElem? hk)
    simp only [Bool.and_eq_true, decide_eq_true_eq] at this
    exact hb this
  have hb4 : s.length = 2 → (((b0.toNat : Nat) : Int) == 48) = false := fun h => by
    rw [beq_eq_false_iff_ne]
    intro e
    refine c3 ⟨h, ?_⟩
    apply UInt8.toNat_inj.1
    have : b0.toNat = 48 := by omega
    rw [this]; rfl
  have hl2 : s.length ≤ 2 := by omega
  clear c1 c2 c3 hc hs0
  iterate 5 (first
    | with_reducible first | refine W_seq ?_ | refine W_skip ?_ | refine W_label ?_ | refine W_ret ?_ | refine W_exit ?_ | refine W_block ?_ | refine thenI ?_ | refine thenRet ?_ | refine thenExit ?_ | refine blockRet ?_ | refine blockI ?_ | refine blockExit ?_ | refine blockExitNe rfl ?_
    | (with_reducible refine W_region_k ?_
       intro K hK
       simp (maxSteps := 2000000) (disch := omega) only [SA, ofValue, ofCell, bin, intBin, un, idx, Go.Ev.builtin, calleeOf, V.isNilS, V.depthOk, depth1, V.ok1, V.isAgg, V.cells, isConst, Nat.reduceBEq, Nat.reduceEqDiff, ↓reduceIte, Nat.reduceLeDiff, Nat.reduceAdd, Nat.reduceMul, Nat.reduceSub, Nat.reduceLT, Int.reduceAdd, Int.reduceSub, Int.reduceMul, Int.reduceLT, Int.reduceLE, Int.reduceToNat, Int.reduceNeg, reduceIte, reduceCtorEq, SPx, h0]
       refine hK _ _ ?_
       clear hK K)
  )
  refine W_mid (fun st => st.dfs = [] ∧ st.t.get 0 = .str s ∧ st.t.get 23 = .bool false) ?_ ?_
  · by_cases hq : s.length = 2
    · have c3' : (((s.length : Nat) : Int) == 2) = true := by rw [hq]; rfl
      have hb4 := hb4 hq
      refine gP (aI @h0 <|aI @c1' <|aI @c2' <|aI @c3' <|aI @hb0 <|@hb4) ?_
      refine ⟨hd, ?_, ?_⟩
      all_goals (try refine f0 @h0 ?_);all_goals try exact True.intro
    · have c3' : (((s.length : Nat) : Int) == 2) = false := by rw [beq_eq_false_iff_ne]; omega
      refine gP (aI @h0 <|aI @c1' <|aI @c2' <|aI @c3' <|@hb0) ?_
      refine ⟨hd, ?_, ?_⟩
      all_goals (try refine f0 @h0 ?_);all_goals try exact True.intro
  clear hd h0 ho hb4 hb0 c1' c2'
  rintro st ⟨hd, h0, h23⟩
  refine gP @h23 ?_
  with_reducible refine W_cond2 (by simp only [SO, ofValue, ofCell, Nat.reduceBEq, Nat.reduceEqDiff, ↓reduceIte, h23]; rfl) (fun h => ?_) (fun h => ?_)
  · simp at h
  refine gP @h0 ?_
  refine W_loopg (fun (k : Nat) st => st.dfs = [] ∧ st.t.get 0 = .str s ∧ st.t.get 25 = vn s.length ∧ st.t.get 26 = vn k ∧ st.t.get 4 = vn (decV (s.take k)) ∧ k ≤ s.length ∧ decV (s.take k) < 100 ∧ ∀ b ∈ s.take k, 48 ≤ b.toNat ∧ b.toNat ≤ 57) (fun k => s.length - k) 0 ?_ ?_
  · refine ⟨hd, ?_, ?_, ?_, ?_, Nat.zero_le _, by simp [decV], by simp⟩
    all_goals (try refine f0 @h0 ?_);all_goals try exact True.intro
    all_goals rfl
  clear hd h0 h23 h
  rintro k st ⟨hd, h0, h25, h26, h4, hk, hv, hall⟩
  refine gP (aI @h25 <|@h26) ?_
  refine cnd (fun h => ?_) (fun h => ?_)
  · have hk' : k < s.length := by have := of_decide_eq_true h; omega
    clear h
    obtain ⟨b, hb⟩ : ∃ b, s[k]? = some b := ⟨s[k]'(by omega), by simp⟩
    have hbn := hno k b hb
    have htk : s.take (k + 1) = s.take k ++ [b] := by rw [List.take_add_one, hb]; rfl
    have hdv : decV (s.take (k + 1)) = 10 * decV (s.take k) + (b.toNat - 48) := by rw [htk, decV, List.foldl_append]; rfl
    have hall' : (48 ≤ b.toNat ∧ b.toNat ≤ 57) → ∀ x ∈ s.take (k + 1), 48 ≤ x.toNat ∧ x.toNat ≤ 57 := fun hb' x hx => by
      rw [htk] at hx
      rcases List.mem_append.1 hx with hx | hx
      · exact hall x hx
      · rw [List.mem_singleton.1 hx]; exact hb'
    have hlt' : (48 ≤ b.toNat ∧ b.toNat ≤ 57) → decV (s.take (k + 1)) < 100 := fun hb' => decV_lt _ (by rw [List.length_take]; omega) (hall' hb')
    clear hall hno hyes htk
    generalize hn : b.toNat = n at hbn hdv hall' hlt'
    generalize hv' : decV (s.take (k + 1)) = v' at hdv hlt'
    generalize decV (s.take k) = v at hv h4 hdv
    have hnv : V.int .u8 ((b.toNat : Nat) : Int) = V.int .u8 (n : Int) := by rw [hn]
    clear hn
    by_cases q1 : (n : Int) < 48
    · rw [hbn (by omega)]
      clear hbn hdv hall' hlt'
      refine gP (aI @h0 <|aI @h25 <|aI @h26 <|aI @hb <|aI @hnv <|@q1) ?_
      refine cnd (fun h => ?_) (fun h => ?_)
      · refine gP @Nat.zero_add ?_
        refine rP hd @Tryd.results92 ?_
        try exact True.intro
        rfl
      · simp at h
    by_cases q2 : (n : Int) > 57
    · rw [hbn (by omega)]
      clear hbn hdv hall' hlt'
      refine gP (aI @h0 <|aI @h25 <|aI @h26 <|aI @hb <|aI @hnv <|aI @q1 <|@q2) ?_
      refine cnd (fun h => ?_) (fun h => ?_)
      · refine gP @Nat.zero_add ?_
        refine rP hd @Tryd.results92 ?_
        try exact True.intro
        rfl
      · simp at h
    have hall' := hall' (by omega)
    have hlt' := hlt' (by omega)
    have h48 : 48 ≤ n := by omega
    have hsub : V.int .u8 (wr .u8 ((n : Int) - 48)) = V.int .u8 ((n : Int) - 48) := by
      congr 1
      have e : (n : Int) - 48 = ((n - 48 : Nat) : Int) := by omega
      rw [e]; exact wr_u8 (by omega)
    have hmul : V.int .i64 (wr .i64 (10 * (v : Int))) = V.int .i64 (10 * (v : Int)) := by rw [wr_i64 (by omega) (by omega)]
    have hadd : V.int .i64 (wr .i64 (10 * (v : Int) + ((n : Int) - 48))) = V.int .i64 (v' : Int) := by
      rw [wr_i64 (by omega) (by omega)]; congr 1; omega
    have hcv : V.int .i64 (wr .i64 ((n : Int) - 48)) = V.int .i64 ((n : Int) - 48) := by rw [wr_i64 (by omega) (by omega)]
    have hkk : V.int .i64 (wr .i64 ((k : Int) + 1)) = V.int .i64 ((k + 1 : Nat) : Int) := by rw [wr_i64 (by omega) (by omega)]; rfl
    have hall' : k < s.length ∧ ∀ x ∈ List.take (k + 1) s, 48 ≤ x.toNat ∧ x.toNat ≤ 57 := ⟨hk', hall'⟩
    clear hbn hdv hk hl2
    refine gP (aI @h0 <|aI @h4 <|aI @h25 <|aI @h26 <|aI @hb <|aI @hnv <|aI @q1 <|@q2) ?_
    refine cnd (fun h => ?_) (fun h => ?_)
    · simp at h
    refine gP (aI @h0 <|aI @h4 <|aI @h25 <|aI @h26 <|aI @hb <|aI @hnv <|aI @hsub <|aI @hmul <|aI @hadd <|aI @hcv <|@hkk) ?_
    refine ⟨k + 1, ⟨hd, ?_, ?_, ?_, ?_, hk', by rw [hv']; exact hlt', hall'.2⟩, by omega⟩
    all_goals (try refine f0 (aI @h0 <|aI @h25 <|@hv') ?_);all_goals try exact True.intro
  · have hk' : k = s.length := by have := of_decide_eq_false h; omega
    rw [hk', List.take_length] at h4 hall
    rw [hyes (List.all_eq_true.2 fun b hb => by have := hall b hb; simp only [Bool.and_eq_true, decide_eq_true_eq]; exact this)]
    clear hall hyes hno h hv
    refine gP @h4 ?_
    refine rP hd @Tryd.results92 ?_
    try exact True.intro
end Go.Proofs.YtpocekfifokndaaDoor
namespace Go.Proofs.YtpocekfifokndaaDoor
open Go Go.Ev Go.Pl
set_option maxRecDepth 100000
set_option maxHeartbeats 4000000
def strs (l : List (List UInt8)) : List V := l.map V.str
theorem strs_length (l : List (List UInt8)) : (strs l).length = l.length := by simp [strs]
theorem strs_get? (l : List (List UInt8)) (i : Nat) : (strs l)[i]? = l[i]?.map V.str := by simp [strs]
theorem splitB_len (c : UInt8) : ∀ (s : List UInt8), ∀ p ∈ splitB c s, p.length ≤ s.length
  | [], p, hp => by simp [splitB] at hp; subst hp; exact Nat.le_refl _
  | b :: bs, p, hp => by
    unfold splitB at hp
    split at hp
    · rcases List.mem_cons.1 hp with rfl | hp
      · exact Nat.zero_le _
      · exact Nat.le_succ_of_le (splitB_len c bs p hp)
    · split at hp
      · simp at hp; subst hp; simp
      · rename_i l ls e
        rcases List.mem_cons.1 hp with rfl | hp
        · exact Nat.succ_le_succ (splitB_len c bs l (by rw [e]; simp))
        · exact Nat.le_succ_of_le (splitB_len c bs p (by rw [e]; simp [hp]))
theorem splitB_pos (c : UInt8) : ∀ (s : List UInt8), 0 < (splitB c s).length
  | [] => by simp [splitB]
  | b :: bs => by
    unfold splitB
    split
    · simp
    · split <;> simp
theorem splitB_count (c : UInt8) : ∀ (s : List UInt8), (splitB c s).length ≤ s.length + 1
  | [] => by simp [splitB]
  | b :: bs => by
    have ih := splitB_count c bs
    unfold splitB
    split
    · simp; omega
    · split
      · simp
      · rename_i l ls e; rw [e] at ih; simp at ih ⊢; omega
def parseL (n : Nat) : Nat → Nat → List Nat → List (List UInt8) → List Nat × Nat × Int
  | _, _, acc, [] => (acc, 0, 0)
  | i, at', acc, p :: ps =>
    if (partS p).2 = false then ([], at', 5) else if 60 ≤ (partS p).1 then ([], at', 30) else if i = 16 then ([], at', 3)
    else if (partS p).1 = 0 ∧ (i = 0 ∨ i = n - 1) then ([], at', 5) else parseL n (i + 1) (at' + (p.length + 1)) (acc ++ [(partS p).1]) ps
def parseS (s : List UInt8) : List Nat × Nat × Int := if s = [48] then ([], 0, 0) else parseL (splitB 58 s).length 0 0 [] (splitB 58 s)
theorem partS_lt (s : List UInt8) : (partS s).1 < 100 := by
  unfold partS
  split
  · decide
  · rename_i h
    split
    · rename_i h2
      refine decV_lt s (by omega) fun b hb => ?_
      have := List.all_eq_true.1 h2 b hb
      simp only [Bool.and_eq_true, decide_eq_true_eq] at this
      exact this
    · decide
theorem ext91 {s : List UInt8} (hs : s.length < 4294967281) {m : Mem} {dst : Nat} {K KP : V → Mem → Prop} : CallQ X 91 [.str s, .str [58]] m dst K KP ↔ K (.sl (strs (splitB 58 s))) m :=
  ext_iff (by show extF 91 [V.str s, V.str [58]] = some (V.sl (strs (splitB 58 s))); unfold extF; rw [if_pos rfl]; simp only; rw [if_pos hs]; rfl) rfl (fun h => by rw [X_P, sr91] at h; exact absurd h (by decide)) rfl
theorem P34 (s : List UInt8) (hlen : s.length < 4294967281) : Ans X 34 [.str s] (.ret (.tup [.sl (nats (parseS s).1), vn (parseS s).2.1, vi (parseS s).2.2])) := by
  refine call_of_X (fn := Tryd.f34) 1 Tryd.func34 rfl (by decide +kernel) rfl ?_ ?_ ?_ ?_
  · rfl
  · intro h; exact absurd h (by rw [sr34]; decide)
  · intro v hv; injection hv with hv; subst hv; rfl
  intro st hs hd ho
  have hm : st.m = ⟨.nil, []⟩ := by subst hs; rfl
  have h0 : st.t.get 0 = .str s := by subst hs; rfl
  clear hs
  repeat (first
    | with_reducible first | refine W_seq ?_ | refine W_skip ?_ | refine W_label ?_ | refine W_ret ?_ | refine W_exit ?_ | refine W_block ?_ | refine thenI ?_ | refine thenRet ?_ | refine thenExit ?_ | refine blockRet ?_ | refine blockI ?_ | refine blockExit ?_ | refine blockExitNe rfl ?_
    | (with_reducible refine W_region_k ?_
       intro K hK
       simp (maxSteps := 2000000) (disch := omega) only [SA, ofValue, ofCell, bin, intBin, un, idx, Go.Ev.builtin, calleeOf, V.isNilS, V.depthOk, depth1, V.ok1, V.isAgg, V.cells, isConst, Nat.reduceBEq, Nat.reduceEqDiff, ↓reduceIte, Nat.reduceLeDiff, Nat.reduceAdd, Nat.reduceMul, Nat.reduceSub, Nat.reduceLT, Int.reduceAdd, Int.reduceSub, Int.reduceMul, Int.reduceLT, Int.reduceLE, Int.reduceToNat, Int.reduceNeg, reduceIte, reduceCtorEq, SPx, strBin, h0, hm]
       refine hK _ _ ?_
       clear hK K)
  )
  refine cnd (fun h => ?_) (fun h => ?_)
  · refine gP @Nat.zero_add ?_
    have h := eq_of_beq h
    refine rPAS hd @Tryd.results34 ?_
    try exact True.intro
    rw [parseS, if_pos h]
    rfl
  have hne : ¬ s = [48] := fun e => by rw [e] at h; simp at h
  rw [parseS, if_neg hne]
  clear h hne
  have hpl := splitB_len 58 s
  have hcnt := splitB_count 58 s
  repeat (first
    | with_reducible first | refine W_seq ?_ | refine W_skip ?_ | refine W_label ?_ | refine W_ret ?_ | refine W_exit ?_ | refine W_block ?_ | refine thenI ?_ | refine thenRet ?_ | refine thenExit ?_ | refine blockRet ?_ | refine blockI ?_ | refine blockExit ?_ | refine blockExitNe rfl ?_
    | (with_reducible refine W_region_k ?_
       intro K hK
       simp (maxSteps := 2000000) (disch := omega) only [SA, ofValue, ofCell, bin, intBin, un, idx, Go.Ev.builtin, calleeOf, V.isNilS, V.depthOk, depth1, V.ok1, V.isAgg, V.cells, isConst, Nat.reduceBEq, Nat.reduceEqDiff, ↓reduceIte, Nat.reduceLeDiff, Nat.reduceAdd, Nat.reduceMul, Nat.reduceSub, Nat.reduceLT, Int.reduceAdd, Int.reduceSub, Int.reduceMul, Int.reduceLT, Int.reduceLE, Int.reduceToNat, Int.reduceNeg, reduceIte, reduceCtorEq, SPx, SSx, appendTo, elemsOf, strBin, h0, hm, co91, sr91, ext91 hlen, strs_length]
       refine hK _ _ ?_
       clear hK K)
  )
  generalize hL : splitB 58 s = L at hpl hcnt
  have hpl : ∀ p ∈ L, p.length < 4294967281 := fun p hp => by have := hpl p hp; omega
  have hcnt : L.length < 4294967300 := by omega
  clear hL h0 hlen
  refine W_loopg (fun (x : Nat × Nat × List Nat) st => st.dfs = [] ∧ st.m.out.length = 0 ∧ st.t.get 5 = .sl (strs L) ∧ st.t.get 14 = .sl (strs L) ∧ st.t.get 15 = vn L.length ∧ st.t.get 16 = vn x.1 ∧ st.t.get 3 = vn x.2.1 ∧
    Held st.m 2 1 (st.t.get 2) x.2.2 ∧ x.1 ≤ L.length ∧ x.1 ≤ 16 ∧ x.2.1 ≤ x.1 * 4294967296 ∧ x.2.2.length = x.1 ∧ parseL L.length 0 0 [] L = parseL L.length x.1 x.2.1 x.2.2 (L.drop x.1)) (fun x => L.length - x.1) (0, 0, []) ?_ ?_
  · refine ⟨hd, ?_, ?_, ?_, ?_, ?_, ?_, ⟨1, 0, ?_, ?_, .inr ⟨rfl, rfl⟩⟩, Nat.zero_le _, Nat.zero_le _, Nat.zero_le _, rfl, rfl⟩
    all_goals (try refine f0 @hm ?_);all_goals try exact True.intro
    all_goals rfl
  clear hd ho hm
  rintro ⟨i, at', acc⟩ st ⟨hd, ho, h5, h14, h15, h16, h3, ⟨g, ty, h2, r2, hty⟩, hi, hi16, hat, hacc, hpe⟩
  dsimp only at h16 h3 h2 r2 hty hi hi16 hat hacc hpe
  refine gP (aI @h15 <|@h16) ?_
  refine cnd (fun h => ?_) (fun h => ?_)
  · have h := of_decide_eq_true h
    have hi' : i < L.length := by omega
    obtain ⟨p, hp⟩ : ∃ p, L[i]? = some p := ⟨L[i], by simp⟩
    have hpm := hpl p (List.mem_of_getElem? hp)
    have hdrop : L.drop i = p :: L.drop (i + 1) := by
      rw [List.drop_eq_getElem_cons hi']
      congr 1
      rw [List.getElem?_eq_getElem hi'] at hp
      exact Option.some.inj hp
    rw [hdrop, parseL] at hpe
    have c := P92 p (by omega)
    have hlt := partS_lt p
    generalize hq : partS p = q at c hlt hpe
    obtain ⟨d, ok⟩ := q
    dsimp only at c hlt hpe
    clear hq hdrop
    refine gPS (aI @strs_get? <|aI @hp <|aI @h14 <|aI @h16 <|aI @co92 <|aI @sr92 <|@c.iffx) ?_
    rw [hpe]
    refine cnd (fun h => ?_) (fun h => ?_)
    · have h : ok = false := by simpa using h
      clear hpe
      refine gP @h3 ?_
      refine rPAS hd (aI @Tryd.results34 <|@ho) ?_
      try exact True.intro
      rfl
    have hok : ¬ ok = false := by simpa using h
    rw [if_neg hok] at hpe ⊢
    clear h
    refine gP @Nat.zero_add ?_
    refine cnd (fun h => ?_) (fun h => ?_)
    · have h := of_decide_eq_true h
      clear hpe
      refine gP @h3 ?_
      refine rPAS hd (aI @Tryd.results34 <|@ho) ?_
      try exact True.intro
      rfl
    have h := of_decide_eq_false h
    have h60 : ¬ 60 ≤ d := by omega
    rw [if_neg h60] at hpe ⊢
    clear h
    refine gP @h16 ?_
    refine cnd (fun h => ?_) (fun h => ?_)
    · have h := eq_of_beq h
      clear hpe
      refine gP @h3 ?_
      refine rPAS hd (aI @Tryd.results34 <|@ho) ?_
      try exact True.intro
      rfl
    have h := ne_of_beq_false h
    have hn16 : ¬ i = 16 := by omega
    rw [if_neg hn16] at hpe ⊢
    clear h
    refine W_seq ?_
    refine W_mid (fun st' => st'.dfs = [] ∧ st'.m = st.m ∧ st'.t.get 2 = .rs ⟨0, 2, 1, g⟩ ty 0 acc.length ∧ st'.t.get 3 = vn at' ∧ st'.t.get 5 = .sl (strs L) ∧ st'.t.get 14 = .sl (strs L) ∧ st'.t.get 15 = vn L.length ∧ st'.t.get 16 = vn i ∧
      st'.t.get 7 = .str p ∧ st'.t.get 8 = vn d ∧ st'.t.get 38 = .bool (decide (d = 0 ∧ (i = 0 ∨ i = L.length - 1)))) ?_ ?_
    · clear hpe hlt hpl
      by_cases d0 : d = 0
      · have e1 : (((d : Nat) : Int) == 0) = true := by rw [d0]; rfl
        by_cases i0 : i = 0
        · have e2 : (((i : Nat) : Int) == 0) = true := by rw [i0]; rfl
          refine gPS (aI @e1 <|@e2) ?_
          refine ⟨hd, rfl, ?_, ?_, ?_, ?_, ?_, ?_, ?_, ?_, ?_⟩
          all_goals (try refine f0 (aI @h2 <|aI @h3 <|aI @h5 <|aI @h14 <|aI @h15 <|@h16) ?_);all_goals try exact True.intro
          rw [decide_eq_true (p := d = 0 ∧ (i = 0 ∨ i = L.length - 1)) ⟨d0, .inl i0⟩]
        · have e2 : (((i : Nat) : Int) == 0) = false := by rw [beq_eq_false_iff_ne]; omega
          have e4 : V.int .i64 (wr .i64 ((L.length : Int) - 1)) = V.int .i64 ((L.length - 1 : Nat) : Int) := by rw [wr_i64 (by omega) (by omega)]; congr 1; omega
          have e5 : V.bool (((i : Nat) : Int) == ((L.length - 1 : Nat) : Int)) = V.bool (decide (i = L.length - 1)) := by
            congr 1
            by_cases h : i = L.length - 1
            · rw [decide_eq_true h, ← h, beq_self_eq_true]
            · rw [decide_eq_false h, beq_eq_false_iff_ne]; omega
          refine gPS (aI @e1 <|aI @e2 <|aI @e4 <|aI @e5 <|aI @h5 <|aI @h16 <|@strs_length) ?_
          refine ⟨hd, rfl, ?_, ?_, ?_, ?_, ?_, ?_, ?_, ?_, ?_⟩
          all_goals (try refine f0 (aI @h2 <|aI @h3 <|aI @h5 <|aI @h14 <|aI @h15 <|@h16) ?_);all_goals try exact True.intro
          congr 1
          by_cases h : i = L.length - 1
          · rw [decide_eq_true h, decide_eq_true (p := d = 0 ∧ (i = 0 ∨ i = L.length - 1)) ⟨d0, .inr h⟩]
          · rw [decide_eq_false h, decide_eq_false (p := d = 0 ∧ (i = 0 ∨ i = L.length - 1)) (fun e => by omega)]
      · have e1 : (((d : Nat) : Int) == 0) = false := by rw [beq_eq_false_iff_ne]; omega
        refine gPS @e1 ?_
        refine ⟨hd, rfl, ?_, ?_, ?_, ?_, ?_, ?_, ?_, ?_, ?_⟩
        all_goals (try refine f0 (aI @h2 <|aI @h3 <|aI @h5 <|aI @h14 <|aI @h15 <|@h16) ?_);all_goals try exact True.intro
        rw [decide_eq_false (p := d = 0 ∧ (i = 0 ∨ i = L.length - 1)) (fun e => d0 e.1)]
    intro st' hM
    clear hd
    obtain ⟨hd, hm', h2', h3', h5', h14', h15', h16', h7', h8', h38'⟩ := hM
    rw [← hm'] at r2 ho
    clear hm' h2 h3 h5 h14 h15 h16
    refine gP @h38' ?_
    with_reducible refine W_cond2 (by simp only [SO, ofValue, ofCell, Nat.reduceBEq, Nat.reduceEqDiff, ↓reduceIte, h38']; rfl) (fun h => ?_) (fun h => ?_)
    · have h := of_decide_eq_true h
      clear hpe
      refine gP @h3' ?_
      refine rPAS hd (aI @Tryd.results34 <|@ho) ?_
      try exact True.intro
      rfl
    · have h := of_decide_eq_false h
      rw [if_neg h] at hpe ⊢
      have e1 : V.int .i64 (wr .i64 ((at' : Int) + (p.length + 1 : Nat))) = V.int .i64 ((at' + (p.length + 1) : Nat) : Int) := by rw [wr_i64 (by omega) (by omega)]; congr 1
      have e2 : V.int .i64 (wr .i64 ((p.length : Int) + 1)) = V.int .i64 ((p.length + 1 : Nat) : Int) := by rw [wr_i64 (by omega) (by omega)]; congr 1
      have e3 : V.int .i64 (wr .i64 ((i : Int) + 1)) = V.int .i64 ((i + 1 : Nat) : Int) := by rw [wr_i64 (by omega) (by omega)]; congr 1
      have hinv : at' + (p.length + 1) ≤ (i + 1) * 4294967296 ∧ i + 1 ≤ 16 ∧ i + 1 ≤ L.length ∧ L.length - (i + 1) < L.length - i := by omega
      have hacc' : (acc ++ [d]).length = i + 1 := by simp [hacc]
      clear hat h hlt hpm
      refine gPS (aI @e1 <|aI @e2 <|aI @e3 <|aI @h2' <|aI @h3' <|aI @h7' <|aI @h8' <|aI @h16' <|aI @r2 <|aI @ho <|@hty) ?_
      refine ⟨(i + 1, at' + (p.length + 1), acc ++ [d]), ⟨hd, ?_, ?_, ?_, ?_, ?_, ?_, ⟨g + 1, 3, ?_, ?_, .inl rfl⟩, hinv.2.2.1, hinv.2.1, hinv.1, hacc', rfl⟩, hinv.2.2.2⟩
      all_goals (try refine fS (aI @h2' <|aI @h3' <|aI @h5' <|aI @h14' <|aI @h15' <|@ho) ?_);all_goals try exact True.intro
  · have h := of_decide_eq_false h
    obtain rfl : i = L.length := by omega
    rw [List.drop_length, parseL] at hpe
    rw [hpe]
    refine gPS @h2 ?_
    refine rPAS hd (aI @Tryd.results34 <|aI @ho <|aI @h2 <|@r2) ?_
    try exact True.intro
    rfl
end Go.Proofs.YtpocekfifokndaaDoor
namespace Go.Proofs.YtpocekfifokndaaDoor
open Go Go.Ev Go.Pl
set_option maxRecDepth 100000
set_option maxHeartbeats 4000000
theorem P106 (k : Nat) (hk : k ≤ 10) : Ans X 106 [vn k] (.ret (vn (60 ^ k))) := by
  refine call_of_X (fn := Tryd.f106) 1 Tryd.func106 rfl (by decide +kernel) rfl ?_ ?_ ?_ ?_
  · rfl
  · exact fun _ => rfl
  · intro v hv; injection hv with hv; subst hv; rfl
  intro s hs hd ho
  have h0 : s.t.get 0 = vn k := by subst hs; rfl
  clear hs
  refine gP @h0 ?_
  refine W_loopg (fun (i : Nat) s => s.dfs = [] ∧ s.t.get 3 = vn (60 ^ i) ∧ s.t.get 4 = vn k ∧ s.t.get 5 = vn i ∧ i ≤ k) (fun i => k - i) 0 ?_ ?_
  · refine ⟨hd, ?_, ?_, ?_, Nat.zero_le _⟩
    all_goals (try refine f0 @h0 ?_);all_goals try exact True.intro
    all_goals rfl
  clear hd h0 ho
  rintro i s ⟨hd, h3, h4, h5, hi⟩
  refine gP (aI @h3 <|aI @h4 <|@h5) ?_
  refine cnd (fun h => ?_) (fun h => ?_)
  · have h := of_decide_eq_true h
    have hb : 60 ^ i * 60 < 9223372036854775808 := by
      rw [← Nat.pow_succ]
      exact Nat.lt_of_le_of_lt (Nat.pow_le_pow_right (by decide) (show i.succ ≤ 10 by omega)) (by decide)
    refine gPC (aI @h3 <|aI @h4 <|@h5) ?_
    refine ⟨i + 1, ⟨hd, ?_, ?_, ?_, by omega⟩, by omega⟩
    all_goals (try refine f0 @h4 ?_);all_goals try exact True.intro
    rw [Nat.pow_succ]
  · have h := of_decide_eq_false h
    obtain rfl : i = k := by omega
    refine gP @h3 ?_
    refine rP hd @Tryd.results106 ?_
    try exact True.intro
end Go.Proofs.YtpocekfifokndaaDoor
namespace Go.Proofs.YtpocekfifokndaaDoor
open Go Go.Ev Go.Pl
set_option maxRecDepth 100000
set_option maxHeartbeats 4000000
def shV (n : Nat) (sh : Int) : V := .agg [.sl (nats (digB n)), vi (vz n + sh)]
theorem shV_still (n : Nat) (sh : Int) : (shV n sh).still = true := rfl
theorem placeRes_whole {n : Nat} (hn : n < 60 ^ 16) : placeRes (n * 60 ^ 72) = .ret (.agg [.sl (nats (digB n)), vi (vz n)]) := by
  rcases Nat.eq_zero_or_pos n with rfl | h
  · rw [placeRes, Nat.zero_mul, if_pos rfl, digB_zero, vz_zero]; rfl
  · have h1 : n * 60 ^ 72 ≠ 0 := Nat.mul_ne_zero (by omega) (by decide)
    have h2 := vz_lt h hn
    have h3 := canL_len_core n
    have h4 : (canL n).length ≤ 16 := canL_length_le.2 hn
    rw [placeRes, if_neg h1, digB_shift, vz_shift h]
    have e : ((vz n + 72 : Nat) : Int) - 72 = (vz n : Int) := by omega
    rw [e, if_neg (by omega)]
theorem P107 (n : Nat) (sh : Int) (hn : n < 9000000000000000000) (h1 : -1000000 < sh) (h2 : sh < 1000000) : Ans X 107 [vn n, vi sh] (.ret (shV n sh)) := by
  refine call_of_X (fn := Tryd.f107) 2 Tryd.func107 rfl (by decide +kernel) rfl ?_ ?_ ?_ ?_
  · rfl
  · intro h; exact absurd h (by rw [sr107]; decide)
  · intro v hv; injection hv with hv; subst hv; rfl
  intro s hs hd ho
  have hm : s.m = ⟨.nil, []⟩ := by subst hs; rfl
  have t0 : s.t.get 0 = vn n := by subst hs; rfl
  have t1 : s.t.get 1 = vi sh := by subst hs; rfl
  clear hs
  have q1 := P88 n hn
  have hn16 : n < 60 ^ 16 := by omega
  have q2 := P81 (n * 60 ^ 72) (by
    calc n * 60 ^ 72 < 60 ^ 16 * 60 ^ 72 := Nat.mul_lt_mul_of_pos_right hn16 (by decide)
      _ ≤ 60 ^ 168 := by decide)
  rw [placeRes_whole hn16] at q2
  have hv : vz n < 17 := by
    rcases Nat.eq_zero_or_pos n with rfl | h
    · rw [vz_zero]; decide
    · have := vz_lt h hn16; omega
  refine gPAW (aI @t0 <|aI @t1 <|aI @hm <|aI @co88 <|aI @sr88 <|aI @co81 <|aI @sr81 <|aI @q1.iffx <|aI @q2.iffx <|@wr_i64) ?_
  refine rPAS hd (aI @Tryd.results107 <|@hm) ?_
  try exact True.intro
  rfl
end Go.Proofs.YtpocekfifokndaaDoor
namespace Go.Proofs.YtpocekfifokndaaDoor
open Go Go.Ev Go.Pl
set_option maxRecDepth 100000
set_option maxHeartbeats 4000000
def nearF (n B : Nat) : Nat → Nat → Nat
  | 0, k => k
  | f + 1, k => if 60 ^ k / n < B then nearF n B f (k + 1) else k
def nearK (n B : Nat) : Nat := nearF n B 16 0
theorem rowsOf_aggl (cs : List V) : rowsOf (.agg cs) = if cs.any V.loose then cs.flatMap rows1 else [] := rfl
theorem ptrs_aggl (cs : List V) : ptrs (.agg cs) = if cs.any V.loose then cs.any ptr1 else false := rfl
theorem near_step (n k : Nat) (hn : 0 < n) : 60 ^ (k + 1) / n = 60 ^ k / n * 60 + 60 ^ k % n * 60 / n ∧ 60 ^ (k + 1) % n = 60 ^ k % n * 60 % n := by
  have e : 60 ^ (k + 1) = 60 ^ k % n * 60 + 60 ^ k / n * 60 * n := by
    conv => lhs; rw [Nat.pow_succ, ← Nat.div_add_mod (60 ^ k) n]
    grind
  rw [e]
  constructor
  · rw [Nat.add_mul_div_right _ _ hn, Nat.add_comm]
  · rw [Nat.add_mul_mod_self_right]
theorem P44 (n d : Nat) (hn0 : 0 < n) (hn : n ≤ 1099511627776) (hd0 : 0 < d) (hd8 : d ≤ 8) : Ans X 44 [vn n, vn d]
    (.ret (.tup [shV (60 ^ nearK n (60 ^ (d - 1)) / n) (-(nearK n (60 ^ (d - 1)) : Nat)), shV (60 ^ nearK n (60 ^ (d - 1)) / n + (if 0 < 60 ^ nearK n (60 ^ (d - 1)) % n then 1 else 0)) (-(nearK n (60 ^ (d - 1)) : Nat)), vi 0])) := by
  refine call_of_X (fn := Tryd.f44) 2 Tryd.func44 rfl (by decide +kernel) rfl ?_ ?_ ?_ ?_
  · rfl
  · intro h; exact absurd h (by rw [sr44]; decide)
  · intro v hv; injection hv with hv; subst hv; rfl
  intro s hs hd ho
  have hm : s.m = ⟨.nil, []⟩ := by subst hs; rfl
  have h0 : s.t.get 0 = vn n := by subst hs; rfl
  have h1 : s.t.get 1 = vn d := by subst hs; rfl
  clear hs
  have g1 : ¬ ((n : Int) < 1) := by omega
  have g2 : ¬ ((n : Int) > 1099511627776) := by omega
  have g3 : ¬ ((d : Int) < 1) := by omega
  have g4 : ¬ ((d : Int) > 8) := by omega
  have hB : 60 ^ (d - 1) ≤ 60 ^ 7 := Nat.pow_le_pow_right (by decide) (by omega)
  have q1 := P106 (d - 1) (by omega)
  have hsub : (d : Int) - 1 = ((d - 1 : Nat) : Int) := by omega
  generalize d - 1 = d' at *
  generalize hBe : 60 ^ d' = B at *
  have hn1 : ¬ ((n : Int) = 0) := by omega
  refine gPA (aI @h0 <|aI @h1 <|aI @hm <|aI @g1 <|aI @g2 <|aI @g3 <|@g4) ?_
  refine cnd (fun h => ?_) (fun h => ?_)
  · simp at h
  have hq : Int.tdiv 1 (n : Int) = ((60 ^ 0 / n : Nat) : Int) := rfl
  have hr : Int.tmod 1 (n : Int) = ((60 ^ 0 % n : Nat) : Int) := rfl
  have hq1 : 60 ^ 0 / n < 2 := by
    have := Nat.div_le_self (60 ^ 0) n
    have h1 : (60 : Nat) ^ 0 = 1 := rfl
    omega
  refine gPA (aI @h0 <|aI @h1 <|aI @hm <|aI @hn1 <|aI @hq <|aI @hr <|@wr_nat) ?_
  refine W_loopg (fun (k : Nat) s => s.dfs = [] ∧ s.m.out.length = 0 ∧ s.t.get 0 = vn n ∧ s.t.get 1 = vn d ∧ s.t.get 4 = .ptr ⟨0, 4, 0, 1⟩ 0 0 ∧ s.t.get 5 = .ptr ⟨0, 5, 0, 1⟩ 0 0 ∧ s.t.get 7 = vn (60 ^ k / n) ∧ s.t.get 8 = vn (60 ^ k % n) ∧ s.t.get 9 = vn k ∧
    s.m.row ⟨0, 4, 0, 1⟩ = some ⟨1, 54, false, false, [.agg [.rs ⟨0, 4, 1, 1⟩ 0 0 0, vi 0]]⟩ ∧ s.m.row ⟨0, 5, 0, 1⟩ = some ⟨1, 54, false, false, [.agg [.rs ⟨0, 5, 1, 1⟩ 0 0 0, vi 0]]⟩ ∧
    k ≤ 16 ∧ nearF n B (16 - k) k = nearK n B ∧ 60 ^ k / n < 200000000000000) (fun k => 16 - k) 0 ?_ ?_
  · refine ⟨hd, ?_, ?_, ?_, ?_, ?_, ?_, ?_, ?_, ?_, ?_, by omega, rfl, by omega⟩
    all_goals (try refine f0 (aI @h0 <|aI @h1 <|@hm) ?_);all_goals try exact True.intro
    all_goals rfl
  clear hd ho h0 h1 hm hq hr hq1 h
  rintro k s ⟨hd, ho, h0, h1, h4, h5, h7, h8, h9, r4, r5, hk, hK, hmb0⟩
  refine gPA (aI @h0 <|aI @h1 <|aI @h7 <|aI @hsub <|aI @co106 <|aI @sr106 <|aI @q1.iffx <|@wr_nat) ?_
  obtain ⟨s1, s2⟩ := near_step n k hn0
  have hrn : 60 ^ k % n < n := Nat.mod_lt _ hn0
  refine cnd (fun h => ?_) (fun h => ?_)
  · have hlt : 60 ^ k / n < B := by have := of_decide_eq_true h; omega
    have hk16 : k < 16 := by
      rcases Nat.lt_or_ge k 16 with h' | h'
      · exact h'
      · exfalso
        have e1 : (60 : Nat) ^ 16 ≤ 60 ^ k := Nat.pow_le_pow_right (by decide) h'
        have e2 : 60 ^ 16 / n ≤ 60 ^ k / n := Nat.div_le_div_right e1
        have e3 : 60 ^ 16 / 1099511627776 ≤ 60 ^ 16 / n := Nat.div_le_div_left hn hn0
        have e4 : (60 : Nat) ^ 7 ≤ 60 ^ 16 / 1099511627776 := by decide
        omega
    have hqb : 60 ^ k % n * 60 / n < 60 := Nat.div_lt_of_lt_mul (by omega)
    have hmb : 60 ^ k / n < 2799360000000 := Nat.lt_of_lt_of_le hlt (Nat.le_trans hB (by decide))
    clear hmb0
    rw [show 16 - k = (16 - (k + 1)) + 1 by omega, nearF, if_pos hlt] at hK
    generalize 60 ^ k / n = m at *
    generalize 60 ^ k % n = w at *
    generalize hu : w * 60 / n = u at *
    clear hB hBe q1
    refine gPAC (aI @h0 <|aI @h1 <|aI @h4 <|aI @h5 <|aI @h7 <|aI @h8 <|aI @h9 <|aI @hn1 <|aI @hu <|aI @r4 <|@r5) ?_
    refine ⟨k + 1, ⟨hd, ?_, ?_, ?_, ?_, ?_, ?_, ?_, ?_, ?_, ?_, by omega, hK, ?_⟩, by omega⟩
    all_goals (try refine f0 (aI @ho <|aI @h0 <|aI @h1 <|aI @h4 <|aI @h5 <|aI @r4 <|aI @r5 <|aI @s1 <|@s2) ?_);all_goals try exact True.intro
    omega
  · have hge : ¬ 60 ^ k / n < B := by have := of_decide_eq_false h; omega
    have hKk : nearK n B = k := by
      rw [← hK]
      cases hf : 16 - k with
      | zero => rfl
      | succ f => rw [nearF, if_neg hge]
    rw [hKk]
    have hmb := hmb0
    clear hmb0
    have hneg : (0 : Int) - (k : Int) = -(k : Int) := by omega
    have q2 := P107 (60 ^ k / n) (-(k : Int)) (by omega) (by omega) (by omega)
    have q3 := P107 (60 ^ k / n + 1) (-(k : Int)) (by omega) (by omega) (by omega)
    generalize 60 ^ k / n = m at *
    generalize 60 ^ k % n = w at *
    clear hB hBe q1 s1 s2
    unfold shV at q2 q3
    refine gPAC (aI @hneg <|aI @wr_i64 <|aI @h0 <|aI @h1 <|aI @h4 <|aI @h5 <|aI @h7 <|aI @h8 <|aI @h9 <|aI @r4 <|aI @r5 <|aI @ho <|aI @co107 <|aI @sr107 <|aI @q2.iffx <|aI @q3.iffx <|aI @rowsOf_aggl <|@ptrs_aggl) ?_
    refine cnd (fun h => ?_) (fun h => ?_)
    · have h : 0 < w := by have := of_decide_eq_true h; omega
      refine gPAC (aI @hneg <|aI @wr_i64 <|aI @h0 <|aI @h1 <|aI @h4 <|aI @h5 <|aI @h7 <|aI @h8 <|aI @h9 <|aI @r4 <|aI @r5 <|aI @ho <|aI @co107 <|aI @sr107 <|aI @q2.iffx <|aI @q3.iffx <|aI @rowsOf_aggl <|@ptrs_aggl) ?_
      rw [if_pos h]
      refine rPAS hd (aI @Tryd.results44 <|aI @h4 <|aI @h5 <|aI @r4 <|aI @r5 <|@ho) ?_
      try exact True.intro
      rfl
    · have h : ¬ 0 < w := by have := of_decide_eq_false h; omega
      refine gPAC (aI @hneg <|aI @wr_i64 <|aI @h0 <|aI @h1 <|aI @h4 <|aI @h5 <|aI @h7 <|aI @h8 <|aI @h9 <|aI @r4 <|aI @r5 <|aI @ho <|aI @co107 <|aI @sr107 <|aI @q2.iffx <|aI @q3.iffx <|aI @rowsOf_aggl <|@ptrs_aggl) ?_
      rw [if_neg h]
      refine rPAS hd (aI @Tryd.results44 <|aI @h4 <|aI @h5 <|aI @r4 <|aI @r5 <|@ho) ?_
      try exact True.intro
      rfl
end Go.Proofs.YtpocekfifokndaaDoor
namespace Go.Proofs.YtpocekfifokndaaDoor
open Go Go.Ev Go.Pl
set_option maxRecDepth 100000
set_option maxHeartbeats 4000000
theorem wr_u64 {n : Nat} (h : n < 18446744073709551616) : wr .u64 (n : Int) = (n : Int) := by
  simp only [wr, IntKind.wrap]
  have e : IntKind.u64.signed = false := by decide
  have e2 : IntKind.u64.bits = 64 := by decide
  rw [e, e2, Bool.false_and, if_neg (by decide)]
  omega
abbrev vu (n : Nat) : V := .int .u64 (n : Int)
theorem P142 (n : Int) (h1 : -4611686018427387904 < n) (h2 : n < 4611686018427387904) : Ans X 142 [vi n] (.ret (vu n.natAbs)) := by
  refine call_of_X (fn := Tryd.f142) 1 Tryd.func142 rfl (by decide +kernel) rfl ?_ ?_ ?_ ?_
  · rfl
  · exact fun _ => rfl
  · intro v hv; injection hv with hv; subst hv; rfl
  intro s hs hd ho
  have h0 : s.t.get 0 = vi n := by subst hs; rfl
  clear hs
  refine gP @h0 ?_
  refine cnd (fun h => ?_) (fun h => ?_)
  · have h := of_decide_eq_true h
    have e1 : (0 : Int) - (n + 1) = ((n.natAbs - 1 : Nat) : Int) := by omega
    have e2 : ((n.natAbs - 1 : Nat) : Int) + 1 = (n.natAbs : Int) := by omega
    refine gP (aI @h0 <|aI @wr_i64 <|aI @wr_nat <|aI @wr_u64 <|aI @e1 <|@e2) ?_
    refine rP hd @Tryd.results142 ?_
    try exact True.intro
  · have h := of_decide_eq_false h
    have e1 : n = (n.natAbs : Int) := by omega
    rw [e1] at h0
    refine gP (aI @h0 <|aI @wr_nat <|@wr_u64) ?_
    refine rP hd @Tryd.results142 ?_
    try exact True.intro
theorem P141 (x y : Nat) (hx : x < 4611686018427387905) (hy : y < 4611686018427387905) : Ans X 141 [vu x, vu y] (.ret (vu (Nat.gcd x y))) := by
  refine call_of_X (fn := Tryd.f141) 2 Tryd.func141 rfl (by decide +kernel) rfl ?_ ?_ ?_ ?_
  · rfl
  · exact fun _ => rfl
  · intro v hv; injection hv with hv; subst hv; rfl
  intro s hs hd ho
  have h0 : s.t.get 0 = vu x := by subst hs; rfl
  have h1 : s.t.get 1 = vu y := by subst hs; rfl
  clear hs
  refine gP @Nat.zero_add ?_
  refine W_loopg (fun (w : Nat × Nat) s => s.dfs = [] ∧ s.m.out.length = 0 ∧ s.t.get 0 = vu w.1 ∧ s.t.get 1 = vu w.2 ∧ Nat.gcd x y = Nat.gcd w.1 w.2) (fun w => w.2) (x, y) ?_ ?_
  · refine ⟨hd, ?_, ?_, ?_, rfl⟩
    all_goals (try refine f0 (aI @h0 <|aI @h1 <|@ho) ?_);all_goals try exact True.intro
  clear hd h0 h1 ho hx hy
  rintro ⟨u, v⟩ s ⟨hd, ho, h0, h1, hg⟩
  dsimp only at h0 h1 hg
  refine gP (aI @h0 <|@h1) ?_
  refine cnd (fun h => ?_) (fun h => ?_)
  · have h : v ≠ 0 := by simpa using h
    have hv0 : ¬ ((v : Int) = 0) := by omega
    refine gP (aI @cast_tmod <|aI @h0 <|aI @h1 <|aI @hv0 <|@ho) ?_
    refine ⟨(v, u % v), ⟨hd, ?_, ?_, ?_, ?_⟩, Nat.mod_lt _ (by omega)⟩
    all_goals (try refine f0 @ho ?_);all_goals try exact True.intro
    rw [hg, Nat.gcd_comm, Nat.gcd_rec, Nat.gcd_comm]
  · have h : v = 0 := by simpa using h
    subst h
    rw [Nat.gcd_zero_right] at hg
    rw [hg]
    refine gP @h0 ?_
    refine rP hd @Tryd.results141 ?_
    try exact True.intro
end Go.Proofs.YtpocekfifokndaaDoor
namespace Go.Proofs.YtpocekfifokndaaDoor
open Go Go.Ev Go.Pl
set_option maxRecDepth 100000
set_option maxHeartbeats 4000000
def isRat (N D : Int) : Bool := decide (1 ≤ D ∧ D ≤ 1048576 ∧ -1099511627776 ≤ N ∧ N ≤ 1099511627776 ∧ Nat.gcd N.natAbs D.natAbs = 1)
theorem rowsOf_agg2 (cs : List V) : rowsOf (.agg cs) = if cs.any V.loose then cs.flatMap rows1 else [] := rfl
theorem P123 (N D : Int) : Ans X 123 [.agg [vi N, vi D]] (.ret (.bool (isRat N D))) := by
  refine call_of_X (fn := Tryd.f123) 1 Tryd.func123 rfl (by decide +kernel) rfl ?_ ?_ ?_ ?_
  · rfl
  · exact fun _ => rfl
  · intro v hv; injection hv with hv; subst hv; rfl
  intro s hs hd ho
  have hm : s.m = ⟨.nil, []⟩ := by subst hs; rfl
  have h0 : s.t.get 0 = .agg [vi N, vi D] := by subst hs; rfl
  clear hs
  by_cases d1 : D ≥ 1
  · by_cases d2 : D ≤ 1048576
    · by_cases d3 : N ≥ -1099511627776
      · by_cases d4 : N ≤ 1099511627776
        · have q1 := P142 N (by omega) (by omega)
          have q2 := P142 D (by omega) (by omega)
          have q3 := P141 N.natAbs D.natAbs (by omega) (by omega)
          refine gPA (aI @h0 <|aI @hm <|aI @d1 <|aI @d2 <|aI @d3 <|aI @d4 <|aI @co142 <|aI @sr142 <|aI @co141 <|aI @sr141 <|aI @q1.iffx <|aI @q2.iffx <|@q3.iffx) ?_
          refine rP hd @Tryd.results123 ?_
          try exact True.intro
          congr 1
          unfold isRat
          rw [Bool.eq_iff_iff]
          simp
          omega
        · refine gPA (aI @h0 <|aI @hm <|aI @d1 <|aI @d2 <|aI @d3 <|@d4) ?_
          refine rP hd @Tryd.results123 ?_
          try exact True.intro
          congr 1
          unfold isRat
          simp; omega
      · refine gPA (aI @h0 <|aI @hm <|aI @d1 <|aI @d2 <|@d3) ?_
        refine rP hd @Tryd.results123 ?_
        try exact True.intro
        congr 1
        unfold isRat
        simp; omega
    · refine gPA (aI @h0 <|aI @hm <|aI @d1 <|@d2) ?_
      refine rP hd @Tryd.results123 ?_
      try exact True.intro
      congr 1
      unfold isRat
      simp; omega
  · refine gPA (aI @h0 <|aI @hm <|@d1) ?_
    refine rP hd @Tryd.results123 ?_
    try exact True.intro
    congr 1
    unfold isRat
    simp; omega
end Go.Proofs.YtpocekfifokndaaDoor
