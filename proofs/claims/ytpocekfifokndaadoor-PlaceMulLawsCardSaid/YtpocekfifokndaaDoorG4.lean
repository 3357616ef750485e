/- Part 4 of the proof: an evaluator of the program, proved sound against the model, and what the functions of the program compute. No condition but those each theorem states. -/
import Derived.Test.YtpocekfifokndaaDoorG1
import Derived.Test.YtpocekfifokndaaDoorG3
import Derived.Test.YtpocekfifokndaaDoorG2
import Derived.WalkKit
set_option linter.unusedSimpArgs false
set_option linter.unusedVariables false
namespace Go.Proofs.YtpocekfifokndaaDoor
open Go Go.Ev Go.Pl
set_option maxRecDepth 100000
set_option maxHeartbeats 4000000
def strs (l : List (List UInt8)) : List V := l.map V.str
theorem strs_length (l : List (List UInt8)) : (strs l).length = l.length := by simp [strs]
theorem strs_get? (l : List (List UInt8)) (i : Nat) : (strs l)[i]? = l[i]?.map V.str := by simp [strs]
theorem splitB_len (c : UInt8) : ∀ (s : List UInt8), ∀ p ∈ splitB c s, p.length ≤ s.length
  | [], p, hp => by simp [splitB] at hp; subst hp; exact Nat.le_refl _
  | b :: bs, p, hp => by
    unfold splitB at hp
    split at hp
    · rcases List.mem_cons.1 hp with rfl | hp
      · exact Nat.zero_le _
      · exact Nat.le_succ_of_le (splitB_len c bs p hp)
    · split at hp
      · simp at hp; subst hp; simp
      · rename_i l ls e
        rcases List.mem_cons.1 hp with rfl | hp
        · exact Nat.succ_le_succ (splitB_len c bs l (by rw [e]; simp))
        · exact Nat.le_succ_of_le (splitB_len c bs p (by rw [e]; simp [hp]))
theorem splitB_pos (c : UInt8) : ∀ (s : List UInt8), 0 < (splitB c s).length
  | [] => by simp [splitB]
  | b :: bs => by
    unfold splitB
    split
    · simp
    · split <;> simp
theorem splitB_count (c : UInt8) : ∀ (s : List UInt8), (splitB c s).length ≤ s.length + 1
  | [] => by simp [splitB]
  | b :: bs => by
    have ih := splitB_count c bs
    unfold splitB
    split
    · simp; omega
    · split
      · simp
      · rename_i l ls e; rw [e] at ih; simp at ih ⊢; omega
def parseL (n : Nat) : Nat → Nat → List Nat → List (List UInt8) → List Nat × Nat × Int
  | _, _, acc, [] => (acc, 0, 0)
  | i, at', acc, p :: ps =>
    if (partS p).2 = false then ([], at', 5) else if 60 ≤ (partS p).1 then ([], at', 30) else if i = 16 then ([], at', 3)
    else if (partS p).1 = 0 ∧ (i = 0 ∨ i = n - 1) then ([], at', 5) else parseL n (i + 1) (at' + (p.length + 1)) (acc ++ [(partS p).1]) ps
def parseS (s : List UInt8) : List Nat × Nat × Int := if s = [48] then ([], 0, 0) else parseL (splitB 58 s).length 0 0 [] (splitB 58 s)
theorem partS_lt (s : List UInt8) : (partS s).1 < 100 := by
  unfold partS
  split
  · decide
  · rename_i h
    split
    · rename_i h2
      refine decV_lt s (by omega) fun b hb => ?_
      have := List.all_eq_true.1 h2 b hb
      simp only [Bool.and_eq_true, decide_eq_true_eq] at this
      exact this
    · decide
theorem ext91 {s : List UInt8} (hs : s.length < 4294967281) {m : Mem} {dst : Nat} {K KP : V → Mem → Prop} : CallQ X 91 [.str s, .str [58]] m dst K KP ↔ K (.sl (strs (splitB 58 s))) m :=
  ext_iff (by show extF 91 [V.str s, V.str [58]] = some (V.sl (strs (splitB 58 s))); unfold extF; rw [if_pos rfl]; simp only; rw [if_pos hs]; rfl) rfl (fun h => by rw [X_P, sr91] at h; exact absurd h (by decide)) rfl
theorem P34 (s : List UInt8) (hlen : s.length < 4294967281) : Ans X 34 [.str s] (.ret (.tup [.sl (nats (parseS s).1), vn (parseS s).2.1, vi (parseS s).2.2])) := by
  refine call_of_X (fn := Tryd.f34) 1 Tryd.func34 rfl (by decide +kernel) rfl ?_ ?_ ?_ ?_
  · rfl
  · intro h; exact absurd h (by rw [sr34]; decide)
  · intro v hv; injection hv with hv; subst hv; rfl
  intro st hs hd ho
  have hm : st.m = ⟨.nil, []⟩ := by subst hs; rfl
  have h0 : st.t.get 0 = .str s := by subst hs; rfl
  clear hs
  repeat (first
    | with_reducible first | refine W_seq ?_ | refine W_skip ?_ | refine W_label ?_ | refine W_ret ?_ | refine W_exit ?_ | refine W_block ?_ | refine thenI ?_ | refine thenRet ?_ | refine thenExit ?_ | refine blockRet ?_ | refine blockI ?_ | refine blockExit ?_ | refine blockExitNe rfl ?_
    | (with_reducible refine W_region_k ?_
       intro K hK
       simp (maxSteps := 2000000) (disch := omega) only [SA, ofValue, ofCell, bin, intBin, un, idx, Go.Ev.builtin, calleeOf, V.isNilS, V.depthOk, depth1, V.ok1, V.isAgg, V.cells, isConst, Nat.reduceBEq, Nat.reduceEqDiff, ↓reduceIte, Nat.reduceLeDiff, Nat.reduceAdd, Nat.reduceMul, Nat.reduceSub, Nat.reduceLT, Int.reduceAdd, Int.reduceSub, Int.reduceMul, Int.reduceLT, Int.reduceLE, Int.reduceToNat, Int.reduceNeg, reduceIte, reduceCtorEq, SPx, strBin, h0, hm]
       refine hK _ _ ?_
       clear hK K)
  )
  with_reducible refine W_cond2 (by simp only [SO, ofValue, ofCell, Nat.reduceBEq, Nat.reduceEqDiff, ↓reduceIte]; rfl) (fun h => ?_) (fun h => ?_)
  · repeat (first
      | with_reducible first | refine W_seq ?_ | refine W_skip ?_ | refine W_label ?_ | refine W_ret ?_ | refine W_exit ?_ | refine W_block ?_ | refine thenI ?_ | refine thenRet ?_ | refine thenExit ?_ | refine blockRet ?_ | refine blockI ?_ | refine blockExit ?_ | refine blockExitNe rfl ?_
      | (with_reducible refine W_region_k ?_
         intro K hK
         simp (maxSteps := 2000000) (disch := omega) only [SA, ofValue, ofCell, bin, intBin, un, idx, Go.Ev.builtin, calleeOf, V.isNilS, V.depthOk, depth1, V.ok1, V.isAgg, V.cells, isConst, Nat.reduceBEq, Nat.reduceEqDiff, ↓reduceIte, Nat.reduceLeDiff, Nat.reduceAdd, Nat.reduceMul, Nat.reduceSub, Nat.reduceLT, Int.reduceAdd, Int.reduceSub, Int.reduceMul, Int.reduceLT, Int.reduceLE, Int.reduceToNat, Int.reduceNeg, reduceIte, reduceCtorEq, SPx]
         refine hK _ _ ?_
         clear hK K)
    )
    have h := eq_of_beq h
    refine end_ret hd (by simp (maxSteps := 2000000) (disch := omega) only [Tryd.results34, resVars, resVar, SA, ofValue, ofCell, bin, intBin, un, idx, Go.Ev.builtin, calleeOf, V.isNilS, V.depthOk, depth1, V.ok1, V.isAgg, V.cells, isConst, Nat.reduceBEq, Nat.reduceEqDiff, ↓reduceIte, Nat.reduceLeDiff, Nat.reduceAdd, Nat.reduceMul, Nat.reduceSub, Nat.reduceLT, Int.reduceAdd, Int.reduceSub, Int.reduceMul, Int.reduceLT, Int.reduceLE, Int.reduceToNat, Int.reduceNeg, reduceIte, reduceCtorEq, SPx, SSx, appendTo, elemsOf, SAx]; rfl) ?_
    simp (maxSteps := 2000000) (disch := omega) only [SA, ofValue, ofCell, bin, intBin, un, idx, Go.Ev.builtin, calleeOf, V.isNilS, V.depthOk, depth1, V.ok1, V.isAgg, V.cells, isConst, Nat.reduceBEq, Nat.reduceEqDiff, ↓reduceIte, Nat.reduceLeDiff, Nat.reduceAdd, Nat.reduceMul, Nat.reduceSub, Nat.reduceLT, Int.reduceAdd, Int.reduceSub, Int.reduceMul, Int.reduceLT, Int.reduceLE, Int.reduceToNat, Int.reduceNeg, reduceIte, reduceCtorEq, true_and, and_true, Nat.zero_add, Nat.le_refl, if_true, ↓reduceIte, resOf, X_own, mv_int, mv_bool, mv_str, mv_sl, mv_nilS, mv_tup, mv2s_nil, mv2s_cons, mv2_int, mv2_bool, mv2_str, mv2_sl, mv2_nilS, Option.map_some, vi, vn, SPx, SSx, appendTo, elemsOf, SAx]
    rw [parseS, if_pos h]
    rfl
  have hne : ¬ s = [48] := fun e => by rw [e] at h; simp at h
  rw [parseS, if_neg hne]
  clear h hne
  have hpl := splitB_len 58 s
  have hcnt := splitB_count 58 s
  repeat (first
    | with_reducible first | refine W_seq ?_ | refine W_skip ?_ | refine W_label ?_ | refine W_ret ?_ | refine W_exit ?_ | refine W_block ?_ | refine thenI ?_ | refine thenRet ?_ | refine thenExit ?_ | refine blockRet ?_ | refine blockI ?_ | refine blockExit ?_ | refine blockExitNe rfl ?_
    | (with_reducible refine W_region_k ?_
       intro K hK
       simp (maxSteps := 2000000) (disch := omega) only [SA, ofValue, ofCell, bin, intBin, un, idx, Go.Ev.builtin, calleeOf, V.isNilS, V.depthOk, depth1, V.ok1, V.isAgg, V.cells, isConst, Nat.reduceBEq, Nat.reduceEqDiff, ↓reduceIte, Nat.reduceLeDiff, Nat.reduceAdd, Nat.reduceMul, Nat.reduceSub, Nat.reduceLT, Int.reduceAdd, Int.reduceSub, Int.reduceMul, Int.reduceLT, Int.reduceLE, Int.reduceToNat, Int.reduceNeg, reduceIte, reduceCtorEq, SPx, SSx, appendTo, elemsOf, strBin, h0, hm, co91, sr91, ext91 hlen, strs_length]
       refine hK _ _ ?_
       clear hK K)
  )
  generalize hL : splitB 58 s = L at hpl hcnt
  have hpl : ∀ p ∈ L, p.length < 4294967281 := fun p hp => by have := hpl p hp; omega
  have hcnt : L.length < 4294967300 := by omega
  clear hL h0 hlen
  refine W_loopg (fun (x : Nat × Nat × List Nat) st => st.dfs = [] ∧ st.m.out.length = 0 ∧ st.t.get 5 = .sl (strs L) ∧ st.t.get 14 = .sl (strs L) ∧ st.t.get 15 = vn L.length ∧ st.t.get 16 = vn x.1 ∧ st.t.get 3 = vn x.2.1 ∧
    Held st.m 2 1 (st.t.get 2) x.2.2 ∧ x.1 ≤ L.length ∧ x.1 ≤ 16 ∧ x.2.1 ≤ x.1 * 4294967296 ∧ x.2.2.length = x.1 ∧ parseL L.length 0 0 [] L = parseL L.length x.1 x.2.1 x.2.2 (L.drop x.1)) (fun x => L.length - x.1) (0, 0, []) ?_ ?_
  · refine ⟨hd, ?_, ?_, ?_, ?_, ?_, ?_, ⟨1, 0, ?_, ?_, .inr ⟨rfl, rfl⟩⟩, Nat.zero_le _, Nat.zero_le _, Nat.zero_le _, rfl, rfl⟩
    all_goals (try simp (maxSteps := 2000000) (disch := omega) only [SO, ofValue, ofCell, Nat.reduceBEq, Nat.reduceEqDiff, ↓reduceIte, and_self, and_true, true_and, Mem.newRef_eq, Mem.gen_nil, Mem.gen_new, Mem.gen_set, Mem.row_new, Mem.row_setW, Mem.new_out, Mem.set_out, List.length_nil, List.length_cons, Nat.zero_le, Nat.le_refl, Nat.reduceLeDiff, Nat.reduceAdd, and_self, and_true, true_and, Nat.zero_add, hm])
    all_goals rfl
  clear hd ho hm
  rintro ⟨i, at', acc⟩ st ⟨hd, ho, h5, h14, h15, h16, h3, ⟨g, ty, h2, r2, hty⟩, hi, hi16, hat, hacc, hpe⟩
  dsimp only at h16 h3 h2 r2 hty hi hi16 hat hacc hpe
  repeat (first
    | with_reducible first | refine W_seq ?_ | refine W_skip ?_ | refine W_label ?_ | refine W_ret ?_ | refine W_exit ?_ | refine W_block ?_ | refine thenI ?_ | refine thenRet ?_ | refine thenExit ?_ | refine blockRet ?_ | refine blockI ?_ | refine blockExit ?_ | refine blockExitNe rfl ?_
    | (with_reducible refine W_region_k ?_
       intro K hK
       simp (maxSteps := 2000000) (disch := omega) only [SA, ofValue, ofCell, bin, intBin, un, idx, Go.Ev.builtin, calleeOf, V.isNilS, V.depthOk, depth1, V.ok1, V.isAgg, V.cells, isConst, Nat.reduceBEq, Nat.reduceEqDiff, ↓reduceIte, Nat.reduceLeDiff, Nat.reduceAdd, Nat.reduceMul, Nat.reduceSub, Nat.reduceLT, Int.reduceAdd, Int.reduceSub, Int.reduceMul, Int.reduceLT, Int.reduceLE, Int.reduceToNat, Int.reduceNeg, reduceIte, reduceCtorEq, SPx, h15, h16]
       refine hK _ _ ?_
       clear hK K)
  )
  with_reducible refine W_cond2 (by simp only [SO, ofValue, ofCell, Nat.reduceBEq, Nat.reduceEqDiff, ↓reduceIte]; rfl) (fun h => ?_) (fun h => ?_)
  · have h := of_decide_eq_true h
    have hi' : i < L.length := by omega
    obtain ⟨p, hp⟩ : ∃ p, L[i]? = some p := ⟨L[i], by simp⟩
    have hpm := hpl p (List.mem_of_getElem? hp)
    have hdrop : L.drop i = p :: L.drop (i + 1) := by
      rw [List.drop_eq_getElem_cons hi']
      congr 1
      rw [List.getElem?_eq_getElem hi'] at hp
      exact Option.some.inj hp
    rw [hdrop, parseL] at hpe
    have c := P92 p (by omega)
    have hlt := partS_lt p
    generalize hq : partS p = q at c hlt hpe
    obtain ⟨d, ok⟩ := q
    dsimp only at c hlt hpe
    clear hq hdrop
    repeat (first
      | with_reducible first | refine W_seq ?_ | refine W_skip ?_ | refine W_label ?_ | refine W_ret ?_ | refine W_exit ?_ | refine W_block ?_ | refine thenI ?_ | refine thenRet ?_ | refine thenExit ?_ | refine blockRet ?_ | refine blockI ?_ | refine blockExit ?_ | refine blockExitNe rfl ?_
      | (with_reducible refine W_region_k ?_
         intro K hK
         simp (maxSteps := 2000000) (disch := omega) only [SA, ofValue, ofCell, bin, intBin, un, idx, Go.Ev.builtin, calleeOf, V.isNilS, V.depthOk, depth1, V.ok1, V.isAgg, V.cells, isConst, Nat.reduceBEq, Nat.reduceEqDiff, ↓reduceIte, Nat.reduceLeDiff, Nat.reduceAdd, Nat.reduceMul, Nat.reduceSub, Nat.reduceLT, Int.reduceAdd, Int.reduceSub, Int.reduceMul, Int.reduceLT, Int.reduceLE, Int.reduceToNat, Int.reduceNeg, reduceIte, reduceCtorEq, SPx, SSx, appendTo, elemsOf, strs_get?, hp, h14, h16, co92, sr92, c.iff, un]
         refine hK _ _ ?_
         clear hK K)
    )
    rw [hpe]
    with_reducible refine W_cond2 (by simp only [SO, ofValue, ofCell, Nat.reduceBEq, Nat.reduceEqDiff, ↓reduceIte]; rfl) (fun h => ?_) (fun h => ?_)
    · have h : ok = false := by simpa using h
      clear hpe
      repeat (first
        | with_reducible first | refine W_seq ?_ | refine W_skip ?_ | refine W_label ?_ | refine W_ret ?_ | refine W_exit ?_ | refine W_block ?_ | refine thenI ?_ | refine thenRet ?_ | refine thenExit ?_ | refine blockRet ?_ | refine blockI ?_ | refine blockExit ?_ | refine blockExitNe rfl ?_
        | (with_reducible refine W_region_k ?_
           intro K hK
           simp (maxSteps := 2000000) (disch := omega) only [SA, ofValue, ofCell, bin, intBin, un, idx, Go.Ev.builtin, calleeOf, V.isNilS, V.depthOk, depth1, V.ok1, V.isAgg, V.cells, isConst, Nat.reduceBEq, Nat.reduceEqDiff, ↓reduceIte, Nat.reduceLeDiff, Nat.reduceAdd, Nat.reduceMul, Nat.reduceSub, Nat.reduceLT, Int.reduceAdd, Int.reduceSub, Int.reduceMul, Int.reduceLT, Int.reduceLE, Int.reduceToNat, Int.reduceNeg, reduceIte, reduceCtorEq, SPx, h3]
           refine hK _ _ ?_
           clear hK K)
      )
      refine end_ret hd (by simp (maxSteps := 2000000) (disch := omega) only [Tryd.results34, resVars, resVar, SA, ofValue, ofCell, bin, intBin, un, idx, Go.Ev.builtin, calleeOf, V.isNilS, V.depthOk, depth1, V.ok1, V.isAgg, V.cells, isConst, Nat.reduceBEq, Nat.reduceEqDiff, ↓reduceIte, Nat.reduceLeDiff, Nat.reduceAdd, Nat.reduceMul, Nat.reduceSub, Nat.reduceLT, Int.reduceAdd, Int.reduceSub, Int.reduceMul, Int.reduceLT, Int.reduceLE, Int.reduceToNat, Int.reduceNeg, reduceIte, reduceCtorEq, SPx, SSx, appendTo, elemsOf, SAx, ho]; rfl) ?_
      simp (maxSteps := 2000000) (disch := omega) only [SA, ofValue, ofCell, bin, intBin, un, idx, Go.Ev.builtin, calleeOf, V.isNilS, V.depthOk, depth1, V.ok1, V.isAgg, V.cells, isConst, Nat.reduceBEq, Nat.reduceEqDiff, ↓reduceIte, Nat.reduceLeDiff, Nat.reduceAdd, Nat.reduceMul, Nat.reduceSub, Nat.reduceLT, Int.reduceAdd, Int.reduceSub, Int.reduceMul, Int.reduceLT, Int.reduceLE, Int.reduceToNat, Int.reduceNeg, reduceIte, reduceCtorEq, true_and, and_true, Nat.zero_add, Nat.le_refl, if_true, ↓reduceIte, resOf, X_own, mv_int, mv_bool, mv_str, mv_sl, mv_nilS, mv_tup, mv2s_nil, mv2s_cons, mv2_int, mv2_bool, mv2_str, mv2_sl, mv2_nilS, Option.map_some, vi, vn, SPx, SSx, appendTo, elemsOf, SAx, ho]
      rfl
    have hok : ¬ ok = false := by simpa using h
    rw [if_neg hok] at hpe ⊢
    clear h
    repeat (first
      | with_reducible first | refine W_seq ?_ | refine W_skip ?_ | refine W_label ?_ | refine W_ret ?_ | refine W_exit ?_ | refine W_block ?_ | refine thenI ?_ | refine thenRet ?_ | refine thenExit ?_ | refine blockRet ?_ | refine blockI ?_ | refine blockExit ?_ | refine blockExitNe rfl ?_
      | (with_reducible refine W_region_k ?_
         intro K hK
         simp (maxSteps := 2000000) (disch := omega) only [SA, ofValue, ofCell, bin, intBin, un, idx, Go.Ev.builtin, calleeOf, V.isNilS, V.depthOk, depth1, V.ok1, V.isAgg, V.cells, isConst, Nat.reduceBEq, Nat.reduceEqDiff, ↓reduceIte, Nat.reduceLeDiff, Nat.reduceAdd, Nat.reduceMul, Nat.reduceSub, Nat.reduceLT, Int.reduceAdd, Int.reduceSub, Int.reduceMul, Int.reduceLT, Int.reduceLE, Int.reduceToNat, Int.reduceNeg, reduceIte, reduceCtorEq, SPx]
         refine hK _ _ ?_
         clear hK K)
    )
    with_reducible refine W_cond2 (by simp only [SO, ofValue, ofCell, Nat.reduceBEq, Nat.reduceEqDiff, ↓reduceIte]; rfl) (fun h => ?_) (fun h => ?_)
    · have h := of_decide_eq_true h
      clear hpe
      repeat (first
        | with_reducible first | refine W_seq ?_ | refine W_skip ?_ | refine W_label ?_ | refine W_ret ?_ | refine W_exit ?_ | refine W_block ?_ | refine thenI ?_ | refine thenRet ?_ | refine thenExit ?_ | refine blockRet ?_ | refine blockI ?_ | refine blockExit ?_ | refine blockExitNe rfl ?_
        | (with_reducible refine W_region_k ?_
           intro K hK
           simp (maxSteps := 2000000) (disch := omega) only [SA, ofValue, ofCell, bin, intBin, un, idx, Go.Ev.builtin, calleeOf, V.isNilS, V.depthOk, depth1, V.ok1, V.isAgg, V.cells, isConst, Nat.reduceBEq, Nat.reduceEqDiff, ↓reduceIte, Nat.reduceLeDiff, Nat.reduceAdd, Nat.reduceMul, Nat.reduceSub, Nat.reduceLT, Int.reduceAdd, Int.reduceSub, Int.reduceMul, Int.reduceLT, Int.reduceLE, Int.reduceToNat, Int.reduceNeg, reduceIte, reduceCtorEq, SPx, h3]
           refine hK _ _ ?_
           clear hK K)
      )
      refine end_ret hd (by simp (maxSteps := 2000000) (disch := omega) only [Tryd.results34, resVars, resVar, SA, ofValue, ofCell, bin, intBin, un, idx, Go.Ev.builtin, calleeOf, V.isNilS, V.depthOk, depth1, V.ok1, V.isAgg, V.cells, isConst, Nat.reduceBEq, Nat.reduceEqDiff, ↓reduceIte, Nat.reduceLeDiff, Nat.reduceAdd, Nat.reduceMul, Nat.reduceSub, Nat.reduceLT, Int.reduceAdd, Int.reduceSub, Int.reduceMul, Int.reduceLT, Int.reduceLE, Int.reduceToNat, Int.reduceNeg, reduceIte, reduceCtorEq, SPx, SSx, appendTo, elemsOf, SAx, ho]; rfl) ?_
      simp (maxSteps := 2000000) (disch := omega) only [SA, ofValue, ofCell, bin, intBin, un, idx, Go.Ev.builtin, calleeOf, V.isNilS, V.depthOk, depth1, V.ok1, V.isAgg, V.cells, isConst, Nat.reduceBEq, Nat.reduceEqDiff, ↓reduceIte, Nat.reduceLeDiff, Nat.reduceAdd, Nat.reduceMul, Nat.reduceSub, Nat.reduceLT, Int.reduceAdd, Int.reduceSub, Int.reduceMul, Int.reduceLT, Int.reduceLE, Int.reduceToNat, Int.reduceNeg, reduceIte, reduceCtorEq, true_and, and_true, Nat.zero_add, Nat.le_refl, if_true, ↓reduceIte, resOf, X_own, mv_int, mv_bool, mv_str, mv_sl, mv_nilS, mv_tup, mv2s_nil, mv2s_cons, mv2_int, mv2_bool, mv2_str, mv2_sl, mv2_nilS, Option.map_some, vi, vn, SPx, SSx, appendTo, elemsOf, SAx, ho]
      rfl
    have h := of_decide_eq_false h
    have h60 : ¬ 60 ≤ d := by omega
    rw [if_neg h60] at hpe ⊢
    clear h
    repeat (first
      | with_reducible first | refine W_seq ?_ | refine W_skip ?_ | refine W_label ?_ | refine W_ret ?_ | refine W_exit ?_ | refine W_block ?_ | refine thenI ?_ | refine thenRet ?_ | refine thenExit ?_ | refine blockRet ?_ | refine blockI ?_ | refine blockExit ?_ | refine blockExitNe rfl ?_
      | (with_reducible refine W_region_k ?_
         intro K hK
         simp (maxSteps := 2000000) (disch := omega) only [SA, ofValue, ofCell, bin, intBin, un, idx, Go.Ev.builtin, calleeOf, V.isNilS, V.depthOk, depth1, V.ok1, V.isAgg, V.cells, isConst, Nat.reduceBEq, Nat.reduceEqDiff, ↓reduceIte, Nat.reduceLeDiff, Nat.reduceAdd, Nat.reduceMul, Nat.reduceSub, Nat.reduceLT, Int.reduceAdd, Int.reduceSub, Int.reduceMul, Int.reduceLT, Int.reduceLE, Int.reduceToNat, Int.reduceNeg, reduceIte, reduceCtorEq, SPx, h16]
         refine hK _ _ ?_
         clear hK K)
    )
    with_reducible refine W_cond2 (by simp only [SO, ofValue, ofCell, Nat.reduceBEq, Nat.reduceEqDiff, ↓reduceIte]; rfl) (fun h => ?_) (fun h => ?_)
    · have h := eq_of_beq h
      clear hpe
      repeat (first
        | with_reducible first | refine W_seq ?_ | refine W_skip ?_ | refine W_label ?_ | refine W_ret ?_ | refine W_exit ?_ | refine W_block ?_ | refine thenI ?_ | refine thenRet ?_ | refine thenExit ?_ | refine blockRet ?_ | refine blockI ?_ | refine blockExit ?_ | refine blockExitNe rfl ?_
        | (with_reducible refine W_region_k ?_
           intro K hK
           simp (maxSteps := 2000000) (disch := omega) only [SA, ofValue, ofCell, bin, intBin, un, idx, Go.Ev.builtin, calleeOf, V.isNilS, V.depthOk, depth1, V.ok1, V.isAgg, V.cells, isConst, Nat.reduceBEq, Nat.reduceEqDiff, ↓reduceIte, Nat.reduceLeDiff, Nat.reduceAdd, Nat.reduceMul, Nat.reduceSub, Nat.reduceLT, Int.reduceAdd, Int.reduceSub, Int.reduceMul, Int.reduceLT, Int.reduceLE, Int.reduceToNat, Int.reduceNeg, reduceIte, reduceCtorEq, SPx, h3]
           refine hK _ _ ?_
           clear hK K)
      )
      refine end_ret hd (by simp (maxSteps := 2000000) (disch := omega) only [Tryd.results34, resVars, resVar, SA, ofValue, ofCell, bin, intBin, un, idx, Go.Ev.builtin, calleeOf, V.isNilS, V.depthOk, depth1, V.ok1, V.isAgg, V.cells, isConst, Nat.reduceBEq, Nat.reduceEqDiff, ↓reduceIte, Nat.reduceLeDiff, Nat.reduceAdd, Nat.reduceMul, Nat.reduceSub, Nat.reduceLT, Int.reduceAdd, Int.reduceSub, Int.reduceMul, Int.reduceLT, Int.reduceLE, Int.reduceToNat, Int.reduceNeg, reduceIte, reduceCtorEq, SPx, SSx, appendTo, elemsOf, SAx, ho]; rfl) ?_
      simp (maxSteps := 2000000) (disch := omega) only [SA, ofValue, ofCell, bin, intBin, un, idx, Go.Ev.builtin, calleeOf, V.isNilS, V.depthOk, depth1, V.ok1, V.isAgg, V.cells, isConst, Nat.reduceBEq, Nat.reduceEqDiff, ↓reduceIte, Nat.reduceLeDiff, Nat.reduceAdd, Nat.reduceMul, Nat.reduceSub, Nat.reduceLT, Int.reduceAdd, Int.reduceSub, Int.reduceMul, Int.reduceLT, Int.reduceLE, Int.reduceToNat, Int.reduceNeg, reduceIte, reduceCtorEq, true_and, and_true, Nat.zero_add, Nat.le_refl, if_true, ↓reduceIte, resOf, X_own, mv_int, mv_bool, mv_str, mv_sl, mv_nilS, mv_tup, mv2s_nil, mv2s_cons, mv2_int, mv2_bool, mv2_str, mv2_sl, mv2_nilS, Option.map_some, vi, vn, SPx, SSx, appendTo, elemsOf, SAx, ho]
      rfl
    have h := ne_of_beq_false h
    have hn16 : ¬ i = 16 := by omega
    rw [if_neg hn16] at hpe ⊢
    clear h
    refine W_seq ?_
    refine W_mid (fun st' => st'.dfs = [] ∧ st'.m = st.m ∧ st'.t.get 2 = .rs ⟨0, 2, 1, g⟩ ty 0 acc.length ∧ st'.t.get 3 = vn at' ∧ st'.t.get 5 = .sl (strs L) ∧ st'.t.get 14 = .sl (strs L) ∧ st'.t.get 15 = vn L.length ∧ st'.t.get 16 = vn i ∧
      st'.t.get 7 = .str p ∧ st'.t.get 8 = vn d ∧ st'.t.get 38 = .bool (decide (d = 0 ∧ (i = 0 ∨ i = L.length - 1)))) ?_ ?_
    · clear hpe hlt hpl
      by_cases d0 : d = 0
      · have e1 : (((d : Nat) : Int) == 0) = true := by rw [d0]; rfl
        by_cases i0 : i = 0
        · have e2 : (((i : Nat) : Int) == 0) = true := by rw [i0]; rfl
          repeat (first
            | with_reducible first | refine W_seq ?_ | refine W_skip ?_ | refine W_label ?_ | refine W_ret ?_ | refine W_exit ?_ | refine W_block ?_ | refine thenI ?_ | refine thenRet ?_ | refine thenExit ?_ | refine blockRet ?_ | refine blockI ?_ | refine blockExit ?_ | refine blockExitNe rfl ?_
            | (with_reducible refine W_region_k ?_
               intro K hK
               simp (maxSteps := 2000000) (disch := omega) only [SA, ofValue, ofCell, bin, intBin, un, idx, Go.Ev.builtin, calleeOf, V.isNilS, V.depthOk, depth1, V.ok1, V.isAgg, V.cells, isConst, Nat.reduceBEq, Nat.reduceEqDiff, ↓reduceIte, Nat.reduceLeDiff, Nat.reduceAdd, Nat.reduceMul, Nat.reduceSub, Nat.reduceLT, Int.reduceAdd, Int.reduceSub, Int.reduceMul, Int.reduceLT, Int.reduceLE, Int.reduceToNat, Int.reduceNeg, reduceIte, reduceCtorEq, SPx, SSx, appendTo, elemsOf, e1, e2]
               refine hK _ _ ?_
               clear hK K)
          )
          refine ⟨hd, rfl, ?_, ?_, ?_, ?_, ?_, ?_, ?_, ?_, ?_⟩
          all_goals (try simp (maxSteps := 2000000) (disch := omega) only [SO, ofValue, ofCell, Nat.reduceBEq, Nat.reduceEqDiff, ↓reduceIte, and_self, and_true, true_and, Mem.newRef_eq, Mem.gen_nil, Mem.gen_new, Mem.gen_set, Mem.row_new, Mem.row_setW, Mem.new_out, Mem.set_out, List.length_nil, List.length_cons, Nat.zero_le, Nat.le_refl, Nat.reduceLeDiff, Nat.reduceAdd, and_self, and_true, true_and, Nat.zero_add, h2, h3, h5, h14, h15, h16])
          rw [decide_eq_true (p := d = 0 ∧ (i = 0 ∨ i = L.length - 1)) ⟨d0, .inl i0⟩]
        · have e2 : (((i : Nat) : Int) == 0) = false := by rw [beq_eq_false_iff_ne]; omega
          have e4 : V.int .i64 (wr .i64 ((L.length : Int) - 1)) = V.int .i64 ((L.length - 1 : Nat) : Int) := by rw [wr_i64 (by omega) (by omega)]; congr 1; omega
          have e5 : V.bool (((i : Nat) : Int) == ((L.length - 1 : Nat) : Int)) = V.bool (decide (i = L.length - 1)) := by
            congr 1
            by_cases h : i = L.length - 1
            · rw [decide_eq_true h, ← h, beq_self_eq_true]
            · rw [decide_eq_false h, beq_eq_false_iff_ne]; omega
          repeat (first
            | with_reducible first | refine W_seq ?_ | refine W_skip ?_ | refine W_label ?_ | refine W_ret ?_ | refine W_exit ?_ | refine W_block ?_ | refine thenI ?_ | refine thenRet ?_ | refine thenExit ?_ | refine blockRet ?_ | refine blockI ?_ | refine blockExit ?_ | refine blockExitNe rfl ?_
            | (with_reducible refine W_region_k ?_
               intro K hK
               simp (maxSteps := 2000000) (disch := omega) only [SA, ofValue, ofCell, bin, intBin, un, idx, Go.Ev.builtin, calleeOf, V.isNilS, V.depthOk, depth1, V.ok1, V.isAgg, V.cells, isConst, Nat.reduceBEq, Nat.reduceEqDiff, ↓reduceIte, Nat.reduceLeDiff, Nat.reduceAdd, Nat.reduceMul, Nat.reduceSub, Nat.reduceLT, Int.reduceAdd, Int.reduceSub, Int.reduceMul, Int.reduceLT, Int.reduceLE, Int.reduceToNat, Int.reduceNeg, reduceIte, reduceCtorEq, SPx, SSx, appendTo, elemsOf, e1, e2, e4, e5, h5, h16, strs_length]
               refine hK _ _ ?_
               clear hK K)
          )
          refine ⟨hd, rfl, ?_, ?_, ?_, ?_, ?_, ?_, ?_, ?_, ?_⟩
          all_goals (try simp (maxSteps := 2000000) (disch := omega) only [SO, ofValue, ofCell, Nat.reduceBEq, Nat.reduceEqDiff, ↓reduceIte, and_self, and_true, true_and, Mem.newRef_eq, Mem.gen_nil, Mem.gen_new, Mem.gen_set, Mem.row_new, Mem.row_setW, Mem.new_out, Mem.set_out, List.length_nil, List.length_cons, Nat.zero_le, Nat.le_refl, Nat.reduceLeDiff, Nat.reduceAdd, and_self, and_true, true_and, Nat.zero_add, h2, h3, h5, h14, h15, h16])
          congr 1
          by_cases h : i = L.length - 1
          · rw [decide_eq_true h, decide_eq_true (p := d = 0 ∧ (i = 0 ∨ i = L.length - 1)) ⟨d0, .inr h⟩]
          · rw [decide_eq_false h, decide_eq_false (p := d = 0 ∧ (i = 0 ∨ i = L.length - 1)) (fun e => by omega)]
      · have e1 : (((d : Nat) : Int) == 0) = false := by rw [beq_eq_false_iff_ne]; omega
        repeat (first
          | with_reducible first | refine W_seq ?_ | refine W_skip ?_ | refine W_label ?_ | refine W_ret ?_ | refine W_exit ?_ | refine W_block ?_ | refine thenI ?_ | refine thenRet ?_ | refine thenExit ?_ | refine blockRet ?_ | refine blockI ?_ | refine blockExit ?_ | refine blockExitNe rfl ?_
          | (with_reducible refine W_region_k ?_
             intro K hK
             simp (maxSteps := 2000000) (disch := omega) only [SA, ofValue, ofCell, bin, intBin, un, idx, Go.Ev.builtin, calleeOf, V.isNilS, V.depthOk, depth1, V.ok1, V.isAgg, V.cells, isConst, Nat.reduceBEq, Nat.reduceEqDiff, ↓reduceIte, Nat.reduceLeDiff, Nat.reduceAdd, Nat.reduceMul, Nat.reduceSub, Nat.reduceLT, Int.reduceAdd, Int.reduceSub, Int.reduceMul, Int.reduceLT, Int.reduceLE, Int.reduceToNat, Int.reduceNeg, reduceIte, reduceCtorEq, SPx, SSx, appendTo, elemsOf, e1]
             refine hK _ _ ?_
             clear hK K)
        )
        refine ⟨hd, rfl, ?_, ?_, ?_, ?_, ?_, ?_, ?_, ?_, ?_⟩
        all_goals (try simp (maxSteps := 2000000) (disch := omega) only [SO, ofValue, ofCell, Nat.reduceBEq, Nat.reduceEqDiff, ↓reduceIte, and_self, and_true, true_and, Mem.newRef_eq, Mem.gen_nil, Mem.gen_new, Mem.gen_set, Mem.row_new, Mem.row_setW, Mem.new_out, Mem.set_out, List.length_nil, List.length_cons, Nat.zero_le, Nat.le_refl, Nat.reduceLeDiff, Nat.reduceAdd, and_self, and_true, true_and, Nat.zero_add, h2, h3, h5, h14, h15, h16])
        rw [decide_eq_false (p := d = 0 ∧ (i = 0 ∨ i = L.length - 1)) (fun e => d0 e.1)]
    intro st' hM
    clear hd
    obtain ⟨hd, hm', h2', h3', h5', h14', h15', h16', h7', h8', h38'⟩ := hM
    rw [← hm'] at r2 ho
    clear hm' h2 h3 h5 h14 h15 h16
    repeat (first
      | with_reducible first | refine W_seq ?_ | refine W_skip ?_ | refine W_label ?_ | refine W_ret ?_ | refine W_exit ?_ | refine W_block ?_ | refine thenI ?_ | refine thenRet ?_ | refine thenExit ?_ | refine blockRet ?_ | refine blockI ?_ | refine blockExit ?_ | refine blockExitNe rfl ?_
      | (with_reducible refine W_region_k ?_
         intro K hK
         simp (maxSteps := 2000000) (disch := omega) only [SA, ofValue, ofCell, bin, intBin, un, idx, Go.Ev.builtin, calleeOf, V.isNilS, V.depthOk, depth1, V.ok1, V.isAgg, V.cells, isConst, Nat.reduceBEq, Nat.reduceEqDiff, ↓reduceIte, Nat.reduceLeDiff, Nat.reduceAdd, Nat.reduceMul, Nat.reduceSub, Nat.reduceLT, Int.reduceAdd, Int.reduceSub, Int.reduceMul, Int.reduceLT, Int.reduceLE, Int.reduceToNat, Int.reduceNeg, reduceIte, reduceCtorEq, SPx, h38']
         refine hK _ _ ?_
         clear hK K)
    )
    with_reducible refine W_cond2 (by simp only [SO, ofValue, ofCell, Nat.reduceBEq, Nat.reduceEqDiff, ↓reduceIte, h38']; rfl) (fun h => ?_) (fun h => ?_)
    · have h := of_decide_eq_true h
      clear hpe
      repeat (first
        | with_reducible first | refine W_seq ?_ | refine W_skip ?_ | refine W_label ?_ | refine W_ret ?_ | refine W_exit ?_ | refine W_block ?_ | refine thenI ?_ | refine thenRet ?_ | refine thenExit ?_ | refine blockRet ?_ | refine blockI ?_ | refine blockExit ?_ | refine blockExitNe rfl ?_
        | (with_reducible refine W_region_k ?_
           intro K hK
           simp (maxSteps := 2000000) (disch := omega) only [SA, ofValue, ofCell, bin, intBin, un, idx, Go.Ev.builtin, calleeOf, V.isNilS, V.depthOk, depth1, V.ok1, V.isAgg, V.cells, isConst, Nat.reduceBEq, Nat.reduceEqDiff, ↓reduceIte, Nat.reduceLeDiff, Nat.reduceAdd, Nat.reduceMul, Nat.reduceSub, Nat.reduceLT, Int.reduceAdd, Int.reduceSub, Int.reduceMul, Int.reduceLT, Int.reduceLE, Int.reduceToNat, Int.reduceNeg, reduceIte, reduceCtorEq, SPx, h3']
           refine hK _ _ ?_
           clear hK K)
      )
      refine end_ret hd (by simp (maxSteps := 2000000) (disch := omega) only [Tryd.results34, resVars, resVar, SA, ofValue, ofCell, bin, intBin, un, idx, Go.Ev.builtin, calleeOf, V.isNilS, V.depthOk, depth1, V.ok1, V.isAgg, V.cells, isConst, Nat.reduceBEq, Nat.reduceEqDiff, ↓reduceIte, Nat.reduceLeDiff, Nat.reduceAdd, Nat.reduceMul, Nat.reduceSub, Nat.reduceLT, Int.reduceAdd, Int.reduceSub, Int.reduceMul, Int.reduceLT, Int.reduceLE, Int.reduceToNat, Int.reduceNeg, reduceIte, reduceCtorEq, SPx, SSx, appendTo, elemsOf, SAx, ho]; rfl) ?_
      simp (maxSteps := 2000000) (disch := omega) only [SA, ofValue, ofCell, bin, intBin, un, idx, Go.Ev.builtin, calleeOf, V.isNilS, V.depthOk, depth1, V.ok1, V.isAgg, V.cells, isConst, Nat.reduceBEq, Nat.reduceEqDiff, ↓reduceIte, Nat.reduceLeDiff, Nat.reduceAdd, Nat.reduceMul, Nat.reduceSub, Nat.reduceLT, Int.reduceAdd, Int.reduceSub, Int.reduceMul, Int.reduceLT, Int.reduceLE, Int.reduceToNat, Int.reduceNeg, reduceIte, reduceCtorEq, true_and, and_true, Nat.zero_add, Nat.le_refl, if_true, ↓reduceIte, resOf, X_own, mv_int, mv_bool, mv_str, mv_sl, mv_nilS, mv_tup, mv2s_nil, mv2s_cons, mv2_int, mv2_bool, mv2_str, mv2_sl, mv2_nilS, Option.map_some, vi, vn, SPx, SSx, appendTo, elemsOf, SAx, ho]
      rfl
    · have h := of_decide_eq_false h
      rw [if_neg h] at hpe ⊢
      have e1 : V.int .i64 (wr .i64 ((at' : Int) + (p.length + 1 : Nat))) = V.int .i64 ((at' + (p.length + 1) : Nat) : Int) := by rw [wr_i64 (by omega) (by omega)]; congr 1
      have e2 : V.int .i64 (wr .i64 ((p.length : Int) + 1)) = V.int .i64 ((p.length + 1 : Nat) : Int) := by rw [wr_i64 (by omega) (by omega)]; congr 1
      have e3 : V.int .i64 (wr .i64 ((i : Int) + 1)) = V.int .i64 ((i + 1 : Nat) : Int) := by rw [wr_i64 (by omega) (by omega)]; congr 1
      have hinv : at' + (p.length + 1) ≤ (i + 1) * 4294967296 ∧ i + 1 ≤ 16 ∧ i + 1 ≤ L.length ∧ L.length - (i + 1) < L.length - i := by omega
      have hacc' : (acc ++ [d]).length = i + 1 := by simp [hacc]
      clear hat h hlt hpm
      repeat (first
        | with_reducible first | refine W_seq ?_ | refine W_skip ?_ | refine W_label ?_ | refine W_ret ?_ | refine W_exit ?_ | refine W_block ?_ | refine thenI ?_ | refine thenRet ?_ | refine thenExit ?_ | refine blockRet ?_ | refine blockI ?_ | refine blockExit ?_ | refine blockExitNe rfl ?_
        | (with_reducible refine W_region_k ?_
           intro K hK
           simp (maxSteps := 2000000) (disch := omega) only [SA, ofValue, ofCell, bin, intBin, un, idx, Go.Ev.builtin, calleeOf, V.isNilS, V.depthOk, depth1, V.ok1, V.isAgg, V.cells, isConst, Nat.reduceBEq, Nat.reduceEqDiff, ↓reduceIte, Nat.reduceLeDiff, Nat.reduceAdd, Nat.reduceMul, Nat.reduceSub, Nat.reduceLT, Int.reduceAdd, Int.reduceSub, Int.reduceMul, Int.reduceLT, Int.reduceLE, Int.reduceToNat, Int.reduceNeg, reduceIte, reduceCtorEq, SPx, SSx, appendTo, elemsOf, e1, e2, e3, h2', h3', h7', h8', h16', r2, ho, hty]
           refine hK _ _ ?_
           clear hK K)
      )
      refine ⟨(i + 1, at' + (p.length + 1), acc ++ [d]), ⟨hd, ?_, ?_, ?_, ?_, ?_, ?_, ⟨g + 1, 3, ?_, ?_, .inl rfl⟩, hinv.2.2.1, hinv.2.1, hinv.1, hacc', rfl⟩, hinv.2.2.2⟩
      all_goals (try simp (maxSteps := 2000000) (disch := omega) only [SO, ofValue, ofCell, Nat.reduceBEq, Nat.reduceEqDiff, ↓reduceIte, and_self, and_true, true_and, Mem.newRef_eq, Mem.gen_nil, Mem.gen_new, Mem.gen_set, Mem.row_new, Mem.row_setW, Mem.new_out, Mem.set_out, List.length_nil, List.length_cons, Nat.zero_le, Nat.le_refl, Nat.reduceLeDiff, Nat.reduceAdd, and_self, and_true, true_and, Nat.zero_add, SSx, appendTo, elemsOf, h2', h3', h5', h14', h15', ho])
  · have h := of_decide_eq_false h
    obtain rfl : i = L.length := by omega
    rw [List.drop_length, parseL] at hpe
    rw [hpe]
    repeat (first
      | with_reducible first | refine W_seq ?_ | refine W_skip ?_ | refine W_label ?_ | refine W_ret ?_ | refine W_exit ?_ | refine W_block ?_ | refine thenI ?_ | refine thenRet ?_ | refine thenExit ?_ | refine blockRet ?_ | refine blockI ?_ | refine blockExit ?_ | refine blockExitNe rfl ?_
      | (with_reducible refine W_region_k ?_
         intro K hK
         simp (maxSteps := 2000000) (disch := omega) only [SA, ofValue, ofCell, bin, intBin, un, idx, Go.Ev.builtin, calleeOf, V.isNilS, V.depthOk, depth1, V.ok1, V.isAgg, V.cells, isConst, Nat.reduceBEq, Nat.reduceEqDiff, ↓reduceIte, Nat.reduceLeDiff, Nat.reduceAdd, Nat.reduceMul, Nat.reduceSub, Nat.reduceLT, Int.reduceAdd, Int.reduceSub, Int.reduceMul, Int.reduceLT, Int.reduceLE, Int.reduceToNat, Int.reduceNeg, reduceIte, reduceCtorEq, SPx, SSx, appendTo, elemsOf, h2]
         refine hK _ _ ?_
         clear hK K)
    )
    refine end_ret hd (by simp (maxSteps := 2000000) (disch := omega) only [Tryd.results34, resVars, resVar, SA, ofValue, ofCell, bin, intBin, un, idx, Go.Ev.builtin, calleeOf, V.isNilS, V.depthOk, depth1, V.ok1, V.isAgg, V.cells, isConst, Nat.reduceBEq, Nat.reduceEqDiff, ↓reduceIte, Nat.reduceLeDiff, Nat.reduceAdd, Nat.reduceMul, Nat.reduceSub, Nat.reduceLT, Int.reduceAdd, Int.reduceSub, Int.reduceMul, Int.reduceLT, Int.reduceLE, Int.reduceToNat, Int.reduceNeg, reduceIte, reduceCtorEq, SPx, SSx, appendTo, elemsOf, SAx, ho, h2, r2]; rfl) ?_
    simp (maxSteps := 2000000) (disch := omega) only [SA, ofValue, ofCell, bin, intBin, un, idx, Go.Ev.builtin, calleeOf, V.isNilS, V.depthOk, depth1, V.ok1, V.isAgg, V.cells, isConst, Nat.reduceBEq, Nat.reduceEqDiff, ↓reduceIte, Nat.reduceLeDiff, Nat.reduceAdd, Nat.reduceMul, Nat.reduceSub, Nat.reduceLT, Int.reduceAdd, Int.reduceSub, Int.reduceMul, Int.reduceLT, Int.reduceLE, Int.reduceToNat, Int.reduceNeg, reduceIte, reduceCtorEq, true_and, and_true, Nat.zero_add, Nat.le_refl, if_true, ↓reduceIte, resOf, X_own, mv_int, mv_bool, mv_str, mv_sl, mv_nilS, mv_tup, mv2s_nil, mv2s_cons, mv2_int, mv2_bool, mv2_str, mv2_sl, mv2_nilS, Option.map_some, vi, vn, SPx, SSx, appendTo, elemsOf, SAx, ho, h2, r2]
    rfl
end Go.Proofs.YtpocekfifokndaaDoor
namespace Go.Proofs.YtpocekfifokndaaDoor
open Go Go.Ev Go.Pl
set_option maxRecDepth 100000
set_option maxHeartbeats 4000000
theorem P106 (k : Nat) (hk : k ≤ 10) : Ans X 106 [vn k] (.ret (vn (60 ^ k))) := by
  refine call_of_X (fn := Tryd.f106) 1 Tryd.func106 rfl (by decide +kernel) rfl ?_ ?_ ?_ ?_
  · rfl
  · exact fun _ => rfl
  · intro v hv; injection hv with hv; subst hv; rfl
  intro s hs hd ho
  have h0 : s.t.get 0 = vn k := by subst hs; rfl
  clear hs
  repeat (first
    | with_reducible first | refine W_seq ?_ | refine W_skip ?_ | refine W_label ?_ | refine W_ret ?_ | refine W_exit ?_ | refine W_block ?_ | refine thenI ?_ | refine thenRet ?_ | refine thenExit ?_ | refine blockRet ?_ | refine blockI ?_ | refine blockExit ?_ | refine blockExitNe rfl ?_
    | (with_reducible refine W_region_k ?_
       intro K hK
       simp (maxSteps := 2000000) (disch := omega) only [SA, ofValue, ofCell, bin, intBin, un, idx, Go.Ev.builtin, calleeOf, V.isNilS, V.depthOk, depth1, V.ok1, V.isAgg, V.cells, isConst, Nat.reduceBEq, Nat.reduceEqDiff, ↓reduceIte, Nat.reduceLeDiff, Nat.reduceAdd, Nat.reduceMul, Nat.reduceSub, Nat.reduceLT, Int.reduceAdd, Int.reduceSub, Int.reduceMul, Int.reduceLT, Int.reduceLE, Int.reduceToNat, Int.reduceNeg, reduceIte, reduceCtorEq, SPx, h0]
       refine hK _ _ ?_
       clear hK K)
  )
  refine W_loopg (fun (i : Nat) s => s.dfs = [] ∧ s.t.get 3 = vn (60 ^ i) ∧ s.t.get 4 = vn k ∧ s.t.get 5 = vn i ∧ i ≤ k) (fun i => k - i) 0 ?_ ?_
  · refine ⟨hd, ?_, ?_, ?_, Nat.zero_le _⟩
    all_goals (try simp (maxSteps := 2000000) (disch := omega) only [SO, ofValue, ofCell, Nat.reduceBEq, Nat.reduceEqDiff, ↓reduceIte, and_self, and_true, true_and, Mem.newRef_eq, Mem.gen_nil, Mem.gen_new, Mem.gen_set, Mem.row_new, Mem.row_setW, Mem.new_out, Mem.set_out, List.length_nil, List.length_cons, Nat.zero_le, Nat.le_refl, Nat.reduceLeDiff, Nat.reduceAdd, and_self, and_true, true_and, Nat.zero_add, h0])
    all_goals rfl
  clear hd h0 ho
  rintro i s ⟨hd, h3, h4, h5, hi⟩
  repeat (first
    | with_reducible first | refine W_seq ?_ | refine W_skip ?_ | refine W_label ?_ | refine W_ret ?_ | refine W_exit ?_ | refine W_block ?_ | refine thenI ?_ | refine thenRet ?_ | refine thenExit ?_ | refine blockRet ?_ | refine blockI ?_ | refine blockExit ?_ | refine blockExitNe rfl ?_
    | (with_reducible refine W_region_k ?_
       intro K hK
       simp (maxSteps := 2000000) (disch := omega) only [SA, ofValue, ofCell, bin, intBin, un, idx, Go.Ev.builtin, calleeOf, V.isNilS, V.depthOk, depth1, V.ok1, V.isAgg, V.cells, isConst, Nat.reduceBEq, Nat.reduceEqDiff, ↓reduceIte, Nat.reduceLeDiff, Nat.reduceAdd, Nat.reduceMul, Nat.reduceSub, Nat.reduceLT, Int.reduceAdd, Int.reduceSub, Int.reduceMul, Int.reduceLT, Int.reduceLE, Int.reduceToNat, Int.reduceNeg, reduceIte, reduceCtorEq, SPx, h3, h4, h5]
       refine hK _ _ ?_
       clear hK K)
  )
  with_reducible refine W_cond2 (by simp only [SO, ofValue, ofCell, Nat.reduceBEq, Nat.reduceEqDiff, ↓reduceIte]; rfl) (fun h => ?_) (fun h => ?_)
  · have h := of_decide_eq_true h
    have hb : 60 ^ i * 60 < 9223372036854775808 := by
      rw [← Nat.pow_succ]
      exact Nat.lt_of_le_of_lt (Nat.pow_le_pow_right (by decide) (show i.succ ≤ 10 by omega)) (by decide)
    repeat (first
      | with_reducible first | refine W_seq ?_ | refine W_skip ?_ | refine W_label ?_ | refine W_ret ?_ | refine W_exit ?_ | refine W_block ?_ | refine thenI ?_ | refine thenRet ?_ | refine thenExit ?_ | refine blockRet ?_ | refine blockI ?_ | refine blockExit ?_ | refine blockExitNe rfl ?_
      | (with_reducible refine W_region_k ?_
         intro K hK
         simp (maxSteps := 2000000) (disch := omega) only [SA, ofValue, ofCell, bin, intBin, un, idx, Go.Ev.builtin, calleeOf, V.isNilS, V.depthOk, depth1, V.ok1, V.isAgg, V.cells, isConst, Nat.reduceBEq, Nat.reduceEqDiff, ↓reduceIte, Nat.reduceLeDiff, Nat.reduceAdd, Nat.reduceMul, Nat.reduceSub, Nat.reduceLT, Int.reduceAdd, Int.reduceSub, Int.reduceMul, Int.reduceLT, Int.reduceLE, Int.reduceToNat, Int.reduceNeg, reduceIte, reduceCtorEq, SPx, SCx, Int.reduceEq, h3, h4, h5]
         refine hK _ _ ?_
         clear hK K)
    )
    refine ⟨i + 1, ⟨hd, ?_, ?_, ?_, by omega⟩, by omega⟩
    all_goals (try simp (maxSteps := 2000000) (disch := omega) only [SO, ofValue, ofCell, Nat.reduceBEq, Nat.reduceEqDiff, ↓reduceIte, and_self, and_true, true_and, Mem.newRef_eq, Mem.gen_nil, Mem.gen_new, Mem.gen_set, Mem.row_new, Mem.row_setW, Mem.new_out, Mem.set_out, List.length_nil, List.length_cons, Nat.zero_le, Nat.le_refl, Nat.reduceLeDiff, Nat.reduceAdd, and_self, and_true, true_and, Nat.zero_add, h4])
    rw [Nat.pow_succ]
  · have h := of_decide_eq_false h
    obtain rfl : i = k := by omega
    repeat (first
      | with_reducible first | refine W_seq ?_ | refine W_skip ?_ | refine W_label ?_ | refine W_ret ?_ | refine W_exit ?_ | refine W_block ?_ | refine thenI ?_ | refine thenRet ?_ | refine thenExit ?_ | refine blockRet ?_ | refine blockI ?_ | refine blockExit ?_ | refine blockExitNe rfl ?_
      | (with_reducible refine W_region_k ?_
         intro K hK
         simp (maxSteps := 2000000) (disch := omega) only [SA, ofValue, ofCell, bin, intBin, un, idx, Go.Ev.builtin, calleeOf, V.isNilS, V.depthOk, depth1, V.ok1, V.isAgg, V.cells, isConst, Nat.reduceBEq, Nat.reduceEqDiff, ↓reduceIte, Nat.reduceLeDiff, Nat.reduceAdd, Nat.reduceMul, Nat.reduceSub, Nat.reduceLT, Int.reduceAdd, Int.reduceSub, Int.reduceMul, Int.reduceLT, Int.reduceLE, Int.reduceToNat, Int.reduceNeg, reduceIte, reduceCtorEq, SPx, h3]
         refine hK _ _ ?_
         clear hK K)
    )
    refine end_ret hd (by simp (maxSteps := 2000000) (disch := omega) only [Tryd.results106, resVars, resVar, SA, ofValue, ofCell, bin, intBin, un, idx, Go.Ev.builtin, calleeOf, V.isNilS, V.depthOk, depth1, V.ok1, V.isAgg, V.cells, isConst, Nat.reduceBEq, Nat.reduceEqDiff, ↓reduceIte, Nat.reduceLeDiff, Nat.reduceAdd, Nat.reduceMul, Nat.reduceSub, Nat.reduceLT, Int.reduceAdd, Int.reduceSub, Int.reduceMul, Int.reduceLT, Int.reduceLE, Int.reduceToNat, Int.reduceNeg, reduceIte, reduceCtorEq, SPx]; rfl) ?_
    simp (maxSteps := 2000000) (disch := omega) only [SA, ofValue, ofCell, bin, intBin, un, idx, Go.Ev.builtin, calleeOf, V.isNilS, V.depthOk, depth1, V.ok1, V.isAgg, V.cells, isConst, Nat.reduceBEq, Nat.reduceEqDiff, ↓reduceIte, Nat.reduceLeDiff, Nat.reduceAdd, Nat.reduceMul, Nat.reduceSub, Nat.reduceLT, Int.reduceAdd, Int.reduceSub, Int.reduceMul, Int.reduceLT, Int.reduceLE, Int.reduceToNat, Int.reduceNeg, reduceIte, reduceCtorEq, true_and, and_true, Nat.zero_add, Nat.le_refl, if_true, ↓reduceIte, resOf, X_own, mv_int, mv_bool, mv_str, mv_sl, mv_nilS, mv_tup, mv2s_nil, mv2s_cons, mv2_int, mv2_bool, mv2_str, mv2_sl, mv2_nilS, Option.map_some, vi, vn, SPx]
end Go.Proofs.YtpocekfifokndaaDoor
namespace Go.Proofs.YtpocekfifokndaaDoor
open Go Go.Ev Go.Pl
set_option maxRecDepth 100000
set_option maxHeartbeats 4000000
def shV (n : Nat) (sh : Int) : V := .agg [.sl (nats (digB n)), vi (vz n + sh)]
theorem shV_still (n : Nat) (sh : Int) : (shV n sh).still = true := rfl
theorem placeRes_whole {n : Nat} (hn : n < 60 ^ 16) : placeRes (n * 60 ^ 72) = .ret (.agg [.sl (nats (digB n)), vi (vz n)]) := by
  rcases Nat.eq_zero_or_pos n with rfl | h
  · rw [placeRes, Nat.zero_mul, if_pos rfl, digB_zero, vz_zero]; rfl
  · have h1 : n * 60 ^ 72 ≠ 0 := Nat.mul_ne_zero (by omega) (by decide)
    have h2 := vz_lt h hn
    have h3 := canL_len_core n
    have h4 : (canL n).length ≤ 16 := canL_length_le.2 hn
    rw [placeRes, if_neg h1, digB_shift, vz_shift h]
    have e : ((vz n + 72 : Nat) : Int) - 72 = (vz n : Int) := by omega
    rw [e, if_neg (by omega)]
theorem P107 (n : Nat) (sh : Int) (hn : n < 9000000000000000000) (h1 : -1000000 < sh) (h2 : sh < 1000000) : Ans X 107 [vn n, vi sh] (.ret (shV n sh)) := by
  refine call_of_X (fn := Tryd.f107) 2 Tryd.func107 rfl (by decide +kernel) rfl ?_ ?_ ?_ ?_
  · rfl
  · intro h; exact absurd h (by rw [sr107]; decide)
  · intro v hv; injection hv with hv; subst hv; rfl
  intro s hs hd ho
  have hm : s.m = ⟨.nil, []⟩ := by subst hs; rfl
  have t0 : s.t.get 0 = vn n := by subst hs; rfl
  have t1 : s.t.get 1 = vi sh := by subst hs; rfl
  clear hs
  have q1 := P88 n hn
  have hn16 : n < 60 ^ 16 := by omega
  have q2 := P81 (n * 60 ^ 72) (by
    calc n * 60 ^ 72 < 60 ^ 16 * 60 ^ 72 := Nat.mul_lt_mul_of_pos_right hn16 (by decide)
      _ ≤ 60 ^ 168 := by decide)
  rw [placeRes_whole hn16] at q2
  have hv : vz n < 17 := by
    rcases Nat.eq_zero_or_pos n with rfl | h
    · rw [vz_zero]; decide
    · have := vz_lt h hn16; omega
  repeat (first
    | with_reducible first | refine W_seq ?_ | refine W_skip ?_ | refine W_label ?_ | refine W_ret ?_ | refine W_exit ?_ | refine W_block ?_ | refine thenI ?_ | refine thenRet ?_ | refine thenExit ?_ | refine blockRet ?_ | refine blockI ?_ | refine blockExit ?_ | refine blockExitNe rfl ?_
    | (with_reducible refine W_region_k ?_
       intro K hK
       simp (maxSteps := 2000000) (disch := omega) only [SA, ofValue, ofCell, bin, intBin, un, idx, Go.Ev.builtin, calleeOf, V.isNilS, V.depthOk, depth1, V.ok1, V.isAgg, V.cells, isConst, Nat.reduceBEq, Nat.reduceEqDiff, ↓reduceIte, Nat.reduceLeDiff, Nat.reduceAdd, Nat.reduceMul, Nat.reduceSub, Nat.reduceLT, Int.reduceAdd, Int.reduceSub, Int.reduceMul, Int.reduceLT, Int.reduceLE, Int.reduceToNat, Int.reduceNeg, reduceIte, reduceCtorEq, SPx, SAx, SWx, t0, t1, hm, co88, sr88, co81, sr81, q1.iff, q2.iff, wr_i64]
       refine hK _ _ ?_
       clear hK K)
  )
  refine end_ret hd (by simp (maxSteps := 2000000) (disch := omega) only [Tryd.results107, resVars, resVar, SA, ofValue, ofCell, bin, intBin, un, idx, Go.Ev.builtin, calleeOf, V.isNilS, V.depthOk, depth1, V.ok1, V.isAgg, V.cells, isConst, Nat.reduceBEq, Nat.reduceEqDiff, ↓reduceIte, Nat.reduceLeDiff, Nat.reduceAdd, Nat.reduceMul, Nat.reduceSub, Nat.reduceLT, Int.reduceAdd, Int.reduceSub, Int.reduceMul, Int.reduceLT, Int.reduceLE, Int.reduceToNat, Int.reduceNeg, reduceIte, reduceCtorEq, SPx, SAx, SSx, appendTo, elemsOf, hm]; rfl) ?_
  simp (maxSteps := 2000000) (disch := omega) only [SA, ofValue, ofCell, bin, intBin, un, idx, Go.Ev.builtin, calleeOf, V.isNilS, V.depthOk, depth1, V.ok1, V.isAgg, V.cells, isConst, Nat.reduceBEq, Nat.reduceEqDiff, ↓reduceIte, Nat.reduceLeDiff, Nat.reduceAdd, Nat.reduceMul, Nat.reduceSub, Nat.reduceLT, Int.reduceAdd, Int.reduceSub, Int.reduceMul, Int.reduceLT, Int.reduceLE, Int.reduceToNat, Int.reduceNeg, reduceIte, reduceCtorEq, true_and, and_true, Nat.zero_add, Nat.le_refl, if_true, ↓reduceIte, resOf, X_own, mv_int, mv_bool, mv_str, mv_sl, mv_nilS, mv_tup, mv2s_nil, mv2s_cons, mv2_int, mv2_bool, mv2_str, mv2_sl, mv2_nilS, Option.map_some, vi, vn, SPx, SAx, SSx, appendTo, elemsOf, hm]
  rfl
end Go.Proofs.YtpocekfifokndaaDoor
namespace Go.Proofs.YtpocekfifokndaaDoor
open Go Go.Ev Go.Pl
set_option maxRecDepth 100000
set_option maxHeartbeats 4000000
def nearF (n B : Nat) : Nat → Nat → Nat
  | 0, k => k
  | f + 1, k => if 60 ^ k / n < B then nearF n B f (k + 1) else k
def nearK (n B : Nat) : Nat := nearF n B 16 0
theorem rowsOf_aggl (cs : List V) : rowsOf (.agg cs) = if cs.any V.loose then cs.flatMap rows1 else [] := rfl
theorem ptrs_aggl (cs : List V) : ptrs (.agg cs) = if cs.any V.loose then cs.any ptr1 else false := rfl
theorem near_step (n k : Nat) (hn : 0 < n) : 60 ^ (k + 1) / n = 60 ^ k / n * 60 + 60 ^ k % n * 60 / n ∧ 60 ^ (k + 1) % n = 60 ^ k % n * 60 % n := by
  have e : 60 ^ (k + 1) = 60 ^ k % n * 60 + 60 ^ k / n * 60 * n := by
    conv => lhs; rw [Nat.pow_succ, ← Nat.div_add_mod (60 ^ k) n]
    grind
  rw [e]
  constructor
  · rw [Nat.add_mul_div_right _ _ hn, Nat.add_comm]
  · rw [Nat.add_mul_mod_self_right]
theorem P44 (n d : Nat) (hn0 : 0 < n) (hn : n ≤ 1099511627776) (hd0 : 0 < d) (hd8 : d ≤ 8) : Ans X 44 [vn n, vn d]
    (.ret (.tup [shV (60 ^ nearK n (60 ^ (d - 1)) / n) (-(nearK n (60 ^ (d - 1)) : Nat)), shV (60 ^ nearK n (60 ^ (d - 1)) / n + (if 0 < 60 ^ nearK n (60 ^ (d - 1)) % n then 1 else 0)) (-(nearK n (60 ^ (d - 1)) : Nat)), vi 0])) := by
  refine call_of_X (fn := Tryd.f44) 2 Tryd.func44 rfl (by decide +kernel) rfl ?_ ?_ ?_ ?_
  · rfl
  · intro h; exact absurd h (by rw [sr44]; decide)
  · intro v hv; injection hv with hv; subst hv; rfl
  intro s hs hd ho
  have hm : s.m = ⟨.nil, []⟩ := by subst hs; rfl
  have h0 : s.t.get 0 = vn n := by subst hs; rfl
  have h1 : s.t.get 1 = vn d := by subst hs; rfl
  clear hs
  have g1 : ¬ ((n : Int) < 1) := by omega
  have g2 : ¬ ((n : Int) > 1099511627776) := by omega
  have g3 : ¬ ((d : Int) < 1) := by omega
  have g4 : ¬ ((d : Int) > 8) := by omega
  have hB : 60 ^ (d - 1) ≤ 60 ^ 7 := Nat.pow_le_pow_right (by decide) (by omega)
  have q1 := P106 (d - 1) (by omega)
  have hsub : (d : Int) - 1 = ((d - 1 : Nat) : Int) := by omega
  generalize d - 1 = d' at *
  generalize hBe : 60 ^ d' = B at *
  have hn1 : ¬ ((n : Int) = 0) := by omega
  repeat (first
    | with_reducible first | refine W_seq ?_ | refine W_skip ?_ | refine W_label ?_ | refine W_ret ?_ | refine W_exit ?_ | refine W_block ?_ | refine thenI ?_ | refine thenRet ?_ | refine thenExit ?_ | refine blockRet ?_ | refine blockI ?_ | refine blockExit ?_ | refine blockExitNe rfl ?_
    | (with_reducible refine W_region_k ?_
       intro K hK
       simp (maxSteps := 2000000) (disch := omega) only [SA, ofValue, ofCell, bin, intBin, un, idx, Go.Ev.builtin, calleeOf, V.isNilS, V.depthOk, depth1, V.ok1, V.isAgg, V.cells, isConst, Nat.reduceBEq, Nat.reduceEqDiff, ↓reduceIte, Nat.reduceLeDiff, Nat.reduceAdd, Nat.reduceMul, Nat.reduceSub, Nat.reduceLT, Int.reduceAdd, Int.reduceSub, Int.reduceMul, Int.reduceLT, Int.reduceLE, Int.reduceToNat, Int.reduceNeg, reduceIte, reduceCtorEq, SPx, SAx, h0, h1, hm, g1, g2, g3, g4]
       refine hK _ _ ?_
       clear hK K)
    | (refine W_draw_k (by decide +kernel) ?_
       intro K hK
       simp (maxSteps := 2000000) (disch := omega) only [SA, ofValue, ofCell, bin, intBin, un, idx, Go.Ev.builtin, calleeOf, V.isNilS, V.depthOk, depth1, V.ok1, V.isAgg, V.cells, isConst, Nat.reduceBEq, Nat.reduceEqDiff, ↓reduceIte, Nat.reduceLeDiff, Nat.reduceAdd, Nat.reduceMul, Nat.reduceSub, Nat.reduceLT, Int.reduceAdd, Int.reduceSub, Int.reduceMul, Int.reduceLT, Int.reduceLE, Int.reduceToNat, Int.reduceNeg, reduceIte, reduceCtorEq, SD, SPx, SAx, h0, h1, hm, g1, g2, g3, g4]
       repeat (refine ⟨by decide +kernel, ?_⟩)
       refine hK _ _ ?_
       clear hK K))
  with_reducible refine W_cond2 (by simp only [SO, ofValue, ofCell, Nat.reduceBEq, Nat.reduceEqDiff, ↓reduceIte]; rfl) (fun h => ?_) (fun h => ?_)
  · simp at h
  have hq : Int.tdiv 1 (n : Int) = ((60 ^ 0 / n : Nat) : Int) := rfl
  have hr : Int.tmod 1 (n : Int) = ((60 ^ 0 % n : Nat) : Int) := rfl
  have hq1 : 60 ^ 0 / n < 2 := by
    have := Nat.div_le_self (60 ^ 0) n
    have h1 : (60 : Nat) ^ 0 = 1 := rfl
    omega
  repeat (first
    | with_reducible first | refine W_seq ?_ | refine W_skip ?_ | refine W_label ?_ | refine W_ret ?_ | refine W_exit ?_ | refine W_block ?_ | refine thenI ?_ | refine thenRet ?_ | refine thenExit ?_ | refine blockRet ?_ | refine blockI ?_ | refine blockExit ?_ | refine blockExitNe rfl ?_
    | (with_reducible refine W_region_k ?_
       intro K hK
       simp (maxSteps := 2000000) (disch := omega) only [SA, ofValue, ofCell, bin, intBin, un, idx, Go.Ev.builtin, calleeOf, V.isNilS, V.depthOk, depth1, V.ok1, V.isAgg, V.cells, isConst, Nat.reduceBEq, Nat.reduceEqDiff, ↓reduceIte, Nat.reduceLeDiff, Nat.reduceAdd, Nat.reduceMul, Nat.reduceSub, Nat.reduceLT, Int.reduceAdd, Int.reduceSub, Int.reduceMul, Int.reduceLT, Int.reduceLE, Int.reduceToNat, Int.reduceNeg, reduceIte, reduceCtorEq, SPx, SAx, h0, h1, hm, hn1, hq, hr, wr_nat]
       refine hK _ _ ?_
       clear hK K)
    | (refine W_draw_k (by decide +kernel) ?_
       intro K hK
       simp (maxSteps := 2000000) (disch := omega) only [SA, ofValue, ofCell, bin, intBin, un, idx, Go.Ev.builtin, calleeOf, V.isNilS, V.depthOk, depth1, V.ok1, V.isAgg, V.cells, isConst, Nat.reduceBEq, Nat.reduceEqDiff, ↓reduceIte, Nat.reduceLeDiff, Nat.reduceAdd, Nat.reduceMul, Nat.reduceSub, Nat.reduceLT, Int.reduceAdd, Int.reduceSub, Int.reduceMul, Int.reduceLT, Int.reduceLE, Int.reduceToNat, Int.reduceNeg, reduceIte, reduceCtorEq, SD, SPx, SAx, h0, h1, hm, hn1, hq, hr, wr_nat]
       repeat (refine ⟨by decide +kernel, ?_⟩)
       refine hK _ _ ?_
       clear hK K))
  refine W_loopg (fun (k : Nat) s => s.dfs = [] ∧ s.m.out.length = 0 ∧ s.t.get 0 = vn n ∧ s.t.get 1 = vn d ∧ s.t.get 4 = .ptr ⟨0, 4, 0, 1⟩ 0 0 ∧ s.t.get 5 = .ptr ⟨0, 5, 0, 1⟩ 0 0 ∧ s.t.get 7 = vn (60 ^ k / n) ∧ s.t.get 8 = vn (60 ^ k % n) ∧ s.t.get 9 = vn k ∧
    s.m.row ⟨0, 4, 0, 1⟩ = some ⟨1, 54, false, false, [.agg [.rs ⟨0, 4, 1, 1⟩ 0 0 0, vi 0]]⟩ ∧ s.m.row ⟨0, 5, 0, 1⟩ = some ⟨1, 54, false, false, [.agg [.rs ⟨0, 5, 1, 1⟩ 0 0 0, vi 0]]⟩ ∧
    k ≤ 16 ∧ nearF n B (16 - k) k = nearK n B ∧ 60 ^ k / n < 200000000000000) (fun k => 16 - k) 0 ?_ ?_
  · refine ⟨hd, ?_, ?_, ?_, ?_, ?_, ?_, ?_, ?_, ?_, ?_, by omega, rfl, by omega⟩
    all_goals (try simp (maxSteps := 2000000) (disch := omega) only [SO, ofValue, ofCell, Nat.reduceBEq, Nat.reduceEqDiff, ↓reduceIte, and_self, and_true, true_and, Mem.newRef_eq, Mem.gen_nil, Mem.gen_new, Mem.gen_set, Mem.row_new, Mem.row_setW, Mem.new_out, Mem.set_out, List.length_nil, List.length_cons, Nat.zero_le, Nat.le_refl, Nat.reduceLeDiff, Nat.reduceAdd, and_self, and_true, true_and, Nat.zero_add, h0, h1, hm])
    all_goals rfl
  clear hd ho h0 h1 hm hq hr hq1 h
  rintro k s ⟨hd, ho, h0, h1, h4, h5, h7, h8, h9, r4, r5, hk, hK, hmb0⟩
  repeat (first
    | with_reducible first | refine W_seq ?_ | refine W_skip ?_ | refine W_label ?_ | refine W_ret ?_ | refine W_exit ?_ | refine W_block ?_ | refine thenI ?_ | refine thenRet ?_ | refine thenExit ?_ | refine blockRet ?_ | refine blockI ?_ | refine blockExit ?_ | refine blockExitNe rfl ?_
    | (with_reducible refine W_region_k ?_
       intro K hK
       simp (maxSteps := 2000000) (disch := omega) only [SA, ofValue, ofCell, bin, intBin, un, idx, Go.Ev.builtin, calleeOf, V.isNilS, V.depthOk, depth1, V.ok1, V.isAgg, V.cells, isConst, Nat.reduceBEq, Nat.reduceEqDiff, ↓reduceIte, Nat.reduceLeDiff, Nat.reduceAdd, Nat.reduceMul, Nat.reduceSub, Nat.reduceLT, Int.reduceAdd, Int.reduceSub, Int.reduceMul, Int.reduceLT, Int.reduceLE, Int.reduceToNat, Int.reduceNeg, reduceIte, reduceCtorEq, SPx, SAx, h0, h1, h7, hsub, co106, sr106, q1.iff, wr_nat]
       refine hK _ _ ?_
       clear hK K)
    | (refine W_draw_k (by decide +kernel) ?_
       intro K hK
       simp (maxSteps := 2000000) (disch := omega) only [SA, ofValue, ofCell, bin, intBin, un, idx, Go.Ev.builtin, calleeOf, V.isNilS, V.depthOk, depth1, V.ok1, V.isAgg, V.cells, isConst, Nat.reduceBEq, Nat.reduceEqDiff, ↓reduceIte, Nat.reduceLeDiff, Nat.reduceAdd, Nat.reduceMul, Nat.reduceSub, Nat.reduceLT, Int.reduceAdd, Int.reduceSub, Int.reduceMul, Int.reduceLT, Int.reduceLE, Int.reduceToNat, Int.reduceNeg, reduceIte, reduceCtorEq, SD, SPx, SAx, h0, h1, h7, hsub, co106, sr106, q1.iff, wr_nat]
       repeat (refine ⟨by decide +kernel, ?_⟩)
       refine hK _ _ ?_
       clear hK K))
  obtain ⟨s1, s2⟩ := near_step n k hn0
  have hrn : 60 ^ k % n < n := Nat.mod_lt _ hn0
  with_reducible refine W_cond2 (by simp only [SO, ofValue, ofCell, Nat.reduceBEq, Nat.reduceEqDiff, ↓reduceIte]; rfl) (fun h => ?_) (fun h => ?_)
  · have hlt : 60 ^ k / n < B := by have := of_decide_eq_true h; omega
    have hk16 : k < 16 := by
      rcases Nat.lt_or_ge k 16 with h' | h'
      · exact h'
      · exfalso
        have e1 : (60 : Nat) ^ 16 ≤ 60 ^ k := Nat.pow_le_pow_right (by decide) h'
        have e2 : 60 ^ 16 / n ≤ 60 ^ k / n := Nat.div_le_div_right e1
        have e3 : 60 ^ 16 / 1099511627776 ≤ 60 ^ 16 / n := Nat.div_le_div_left hn hn0
        have e4 : (60 : Nat) ^ 7 ≤ 60 ^ 16 / 1099511627776 := by decide
        omega
    have hqb : 60 ^ k % n * 60 / n < 60 := Nat.div_lt_of_lt_mul (by omega)
    have hmb : 60 ^ k / n < 2799360000000 := Nat.lt_of_lt_of_le hlt (Nat.le_trans hB (by decide))
    clear hmb0
    rw [show 16 - k = (16 - (k + 1)) + 1 by omega, nearF, if_pos hlt] at hK
    generalize 60 ^ k / n = m at *
    generalize 60 ^ k % n = w at *
    generalize hu : w * 60 / n = u at *
    clear hB hBe q1
    repeat (first
      | with_reducible first | refine W_seq ?_ | refine W_skip ?_ | refine W_label ?_ | refine W_ret ?_ | refine W_exit ?_ | refine W_block ?_ | refine thenI ?_ | refine thenRet ?_ | refine thenExit ?_ | refine blockRet ?_ | refine blockI ?_ | refine blockExit ?_ | refine blockExitNe rfl ?_
      | (with_reducible refine W_region_k ?_
         intro K hK
         simp (maxSteps := 2000000) (disch := omega) only [SA, ofValue, ofCell, bin, intBin, un, idx, Go.Ev.builtin, calleeOf, V.isNilS, V.depthOk, depth1, V.ok1, V.isAgg, V.cells, isConst, Nat.reduceBEq, Nat.reduceEqDiff, ↓reduceIte, Nat.reduceLeDiff, Nat.reduceAdd, Nat.reduceMul, Nat.reduceSub, Nat.reduceLT, Int.reduceAdd, Int.reduceSub, Int.reduceMul, Int.reduceLT, Int.reduceLE, Int.reduceToNat, Int.reduceNeg, reduceIte, reduceCtorEq, SPx, SAx, SCx, Int.reduceEq, h0, h1, h4, h5, h7, h8, h9, hn1, hu, r4, r5]
         refine hK _ _ ?_
         clear hK K)
      | (refine W_draw_k (by decide +kernel) ?_
         intro K hK
         simp (maxSteps := 2000000) (disch := omega) only [SA, ofValue, ofCell, bin, intBin, un, idx, Go.Ev.builtin, calleeOf, V.isNilS, V.depthOk, depth1, V.ok1, V.isAgg, V.cells, isConst, Nat.reduceBEq, Nat.reduceEqDiff, ↓reduceIte, Nat.reduceLeDiff, Nat.reduceAdd, Nat.reduceMul, Nat.reduceSub, Nat.reduceLT, Int.reduceAdd, Int.reduceSub, Int.reduceMul, Int.reduceLT, Int.reduceLE, Int.reduceToNat, Int.reduceNeg, reduceIte, reduceCtorEq, SD, SPx, SAx, SCx, Int.reduceEq, h0, h1, h4, h5, h7, h8, h9, hn1, hu, r4, r5]
         repeat (refine ⟨by decide +kernel, ?_⟩)
         refine hK _ _ ?_
         clear hK K))
    refine ⟨k + 1, ⟨hd, ?_, ?_, ?_, ?_, ?_, ?_, ?_, ?_, ?_, ?_, by omega, hK, ?_⟩, by omega⟩
    all_goals (try simp (maxSteps := 2000000) (disch := omega) only [SO, ofValue, ofCell, Nat.reduceBEq, Nat.reduceEqDiff, ↓reduceIte, and_self, and_true, true_and, Mem.newRef_eq, Mem.gen_nil, Mem.gen_new, Mem.gen_set, Mem.row_new, Mem.row_setW, Mem.new_out, Mem.set_out, List.length_nil, List.length_cons, Nat.zero_le, Nat.le_refl, Nat.reduceLeDiff, Nat.reduceAdd, and_self, and_true, true_and, Nat.zero_add, ho, h0, h1, h4, h5, r4, r5, s1, s2])
    omega
  · have hge : ¬ 60 ^ k / n < B := by have := of_decide_eq_false h; omega
    have hKk : nearK n B = k := by
      rw [← hK]
      cases hf : 16 - k with
      | zero => rfl
      | succ f => rw [nearF, if_neg hge]
    rw [hKk]
    have hmb := hmb0
    clear hmb0
    have hneg : (0 : Int) - (k : Int) = -(k : Int) := by omega
    have q2 := P107 (60 ^ k / n) (-(k : Int)) (by omega) (by omega) (by omega)
    have q3 := P107 (60 ^ k / n + 1) (-(k : Int)) (by omega) (by omega) (by omega)
    generalize 60 ^ k / n = m at *
    generalize 60 ^ k % n = w at *
    clear hB hBe q1 s1 s2
    unfold shV at q2 q3
    repeat (first
      | with_reducible first | refine W_seq ?_ | refine W_skip ?_ | refine W_label ?_ | refine W_ret ?_ | refine W_exit ?_ | refine W_block ?_ | refine thenI ?_ | refine thenRet ?_ | refine thenExit ?_ | refine blockRet ?_ | refine blockI ?_ | refine blockExit ?_ | refine blockExitNe rfl ?_
      | (with_reducible refine W_region_k ?_
         intro K hK
         simp (maxSteps := 2000000) (disch := omega) only [SA, ofValue, ofCell, bin, intBin, un, idx, Go.Ev.builtin, calleeOf, V.isNilS, V.depthOk, depth1, V.ok1, V.isAgg, V.cells, isConst, Nat.reduceBEq, Nat.reduceEqDiff, ↓reduceIte, Nat.reduceLeDiff, Nat.reduceAdd, Nat.reduceMul, Nat.reduceSub, Nat.reduceLT, Int.reduceAdd, Int.reduceSub, Int.reduceMul, Int.reduceLT, Int.reduceLE, Int.reduceToNat, Int.reduceNeg, reduceIte, reduceCtorEq, SPx, SAx, SCx, Int.reduceEq, hneg, wr_i64, h0, h1, h4, h5, h7, h8, h9, r4, r5, ho, co107, sr107, q2.iff, q3.iff, rowsOf_aggl, ptrs_aggl]
         refine hK _ _ ?_
         clear hK K)
      | (refine W_draw_k (by decide +kernel) ?_
         intro K hK
         simp (maxSteps := 2000000) (disch := omega) only [SA, ofValue, ofCell, bin, intBin, un, idx, Go.Ev.builtin, calleeOf, V.isNilS, V.depthOk, depth1, V.ok1, V.isAgg, V.cells, isConst, Nat.reduceBEq, Nat.reduceEqDiff, ↓reduceIte, Nat.reduceLeDiff, Nat.reduceAdd, Nat.reduceMul, Nat.reduceSub, Nat.reduceLT, Int.reduceAdd, Int.reduceSub, Int.reduceMul, Int.reduceLT, Int.reduceLE, Int.reduceToNat, Int.reduceNeg, reduceIte, reduceCtorEq, SD, SPx, SAx, SCx, Int.reduceEq, hneg, wr_i64, h0, h1, h4, h5, h7, h8, h9, r4, r5, ho, co107, sr107, q2.iff, q3.iff, rowsOf_aggl, ptrs_aggl]
         repeat (refine ⟨by decide +kernel, ?_⟩)
         refine hK _ _ ?_
         clear hK K))
    with_reducible refine W_cond2 (by simp only [SO, ofValue, ofCell, Nat.reduceBEq, Nat.reduceEqDiff, ↓reduceIte]; rfl) (fun h => ?_) (fun h => ?_)
    · have h : 0 < w := by have := of_decide_eq_true h; omega
      repeat (first
        | with_reducible first | refine W_seq ?_ | refine W_skip ?_ | refine W_label ?_ | refine W_ret ?_ | refine W_exit ?_ | refine W_block ?_ | refine thenI ?_ | refine thenRet ?_ | refine thenExit ?_ | refine blockRet ?_ | refine blockI ?_ | refine blockExit ?_ | refine blockExitNe rfl ?_
        | (with_reducible refine W_region_k ?_
           intro K hK
           simp (maxSteps := 2000000) (disch := omega) only [SA, ofValue, ofCell, bin, intBin, un, idx, Go.Ev.builtin, calleeOf, V.isNilS, V.depthOk, depth1, V.ok1, V.isAgg, V.cells, isConst, Nat.reduceBEq, Nat.reduceEqDiff, ↓reduceIte, Nat.reduceLeDiff, Nat.reduceAdd, Nat.reduceMul, Nat.reduceSub, Nat.reduceLT, Int.reduceAdd, Int.reduceSub, Int.reduceMul, Int.reduceLT, Int.reduceLE, Int.reduceToNat, Int.reduceNeg, reduceIte, reduceCtorEq, SPx, SAx, SCx, Int.reduceEq, hneg, wr_i64, h0, h1, h4, h5, h7, h8, h9, r4, r5, ho, co107, sr107, q2.iff, q3.iff, rowsOf_aggl, ptrs_aggl]
           refine hK _ _ ?_
           clear hK K)
        | (refine W_draw_k (by decide +kernel) ?_
           intro K hK
           simp (maxSteps := 2000000) (disch := omega) only [SA, ofValue, ofCell, bin, intBin, un, idx, Go.Ev.builtin, calleeOf, V.isNilS, V.depthOk, depth1, V.ok1, V.isAgg, V.cells, isConst, Nat.reduceBEq, Nat.reduceEqDiff, ↓reduceIte, Nat.reduceLeDiff, Nat.reduceAdd, Nat.reduceMul, Nat.reduceSub, Nat.reduceLT, Int.reduceAdd, Int.reduceSub, Int.reduceMul, Int.reduceLT, Int.reduceLE, Int.reduceToNat, Int.reduceNeg, reduceIte, reduceCtorEq, SD, SPx, SAx, SCx, Int.reduceEq, hneg, wr_i64, h0, h1, h4, h5, h7, h8, h9, r4, r5, ho, co107, sr107, q2.iff, q3.iff, rowsOf_aggl, ptrs_aggl]
           repeat (refine ⟨by decide +kernel, ?_⟩)
           refine hK _ _ ?_
           clear hK K))
      rw [if_pos h]
      refine end_ret hd (by simp (maxSteps := 2000000) (disch := omega) only [Tryd.results44, resVars, resVar, SA, ofValue, ofCell, bin, intBin, un, idx, Go.Ev.builtin, calleeOf, V.isNilS, V.depthOk, depth1, V.ok1, V.isAgg, V.cells, isConst, Nat.reduceBEq, Nat.reduceEqDiff, ↓reduceIte, Nat.reduceLeDiff, Nat.reduceAdd, Nat.reduceMul, Nat.reduceSub, Nat.reduceLT, Int.reduceAdd, Int.reduceSub, Int.reduceMul, Int.reduceLT, Int.reduceLE, Int.reduceToNat, Int.reduceNeg, reduceIte, reduceCtorEq, SPx, SAx, SSx, appendTo, elemsOf, h4, h5, r4, r5, ho]; rfl) ?_
      simp (maxSteps := 2000000) (disch := omega) only [SA, ofValue, ofCell, bin, intBin, un, idx, Go.Ev.builtin, calleeOf, V.isNilS, V.depthOk, depth1, V.ok1, V.isAgg, V.cells, isConst, Nat.reduceBEq, Nat.reduceEqDiff, ↓reduceIte, Nat.reduceLeDiff, Nat.reduceAdd, Nat.reduceMul, Nat.reduceSub, Nat.reduceLT, Int.reduceAdd, Int.reduceSub, Int.reduceMul, Int.reduceLT, Int.reduceLE, Int.reduceToNat, Int.reduceNeg, reduceIte, reduceCtorEq, true_and, and_true, Nat.zero_add, Nat.le_refl, if_true, ↓reduceIte, resOf, X_own, mv_int, mv_bool, mv_str, mv_sl, mv_nilS, mv_tup, mv2s_nil, mv2s_cons, mv2_int, mv2_bool, mv2_str, mv2_sl, mv2_nilS, Option.map_some, vi, vn, SPx, SAx, SSx, appendTo, elemsOf, h4, h5, r4, r5, ho]
      rfl
    · have h : ¬ 0 < w := by have := of_decide_eq_false h; omega
      repeat (first
        | with_reducible first | refine W_seq ?_ | refine W_skip ?_ | refine W_label ?_ | refine W_ret ?_ | refine W_exit ?_ | refine W_block ?_ | refine thenI ?_ | refine thenRet ?_ | refine thenExit ?_ | refine blockRet ?_ | refine blockI ?_ | refine blockExit ?_ | refine blockExitNe rfl ?_
        | (with_reducible refine W_region_k ?_
           intro K hK
           simp (maxSteps := 2000000) (disch := omega) only [SA, ofValue, ofCell, bin, intBin, un, idx, Go.Ev.builtin, calleeOf, V.isNilS, V.depthOk, depth1, V.ok1, V.isAgg, V.cells, isConst, Nat.reduceBEq, Nat.reduceEqDiff, ↓reduceIte, Nat.reduceLeDiff, Nat.reduceAdd, Nat.reduceMul, Nat.reduceSub, Nat.reduceLT, Int.reduceAdd, Int.reduceSub, Int.reduceMul, Int.reduceLT, Int.reduceLE, Int.reduceToNat, Int.reduceNeg, reduceIte, reduceCtorEq, SPx, SAx, SCx, Int.reduceEq, hneg, wr_i64, h0, h1, h4, h5, h7, h8, h9, r4, r5, ho, co107, sr107, q2.iff, q3.iff, rowsOf_aggl, ptrs_aggl]
           refine hK _ _ ?_
           clear hK K)
        | (refine W_draw_k (by decide +kernel) ?_
           intro K hK
           simp (maxSteps := 2000000) (disch := omega) only [SA, ofValue, ofCell, bin, intBin, un, idx, Go.Ev.builtin, calleeOf, V.isNilS, V.depthOk, depth1, V.ok1, V.isAgg, V.cells, isConst, Nat.reduceBEq, Nat.reduceEqDiff, ↓reduceIte, Nat.reduceLeDiff, Nat.reduceAdd, Nat.reduceMul, Nat.reduceSub, Nat.reduceLT, Int.reduceAdd, Int.reduceSub, Int.reduceMul, Int.reduceLT, Int.reduceLE, Int.reduceToNat, Int.reduceNeg, reduceIte, reduceCtorEq, SD, SPx, SAx, SCx, Int.reduceEq, hneg, wr_i64, h0, h1, h4, h5, h7, h8, h9, r4, r5, ho, co107, sr107, q2.iff, q3.iff, rowsOf_aggl, ptrs_aggl]
           repeat (refine ⟨by decide +kernel, ?_⟩)
           refine hK _ _ ?_
           clear hK K))
      rw [if_neg h]
      refine end_ret hd (by simp (maxSteps := 2000000) (disch := omega) only [Tryd.results44, resVars, resVar, SA, ofValue, ofCell, bin, intBin, un, idx, Go.Ev.builtin, calleeOf, V.isNilS, V.depthOk, depth1, V.ok1, V.isAgg, V.cells, isConst, Nat.reduceBEq, Nat.reduceEqDiff, ↓reduceIte, Nat.reduceLeDiff, Nat.reduceAdd, Nat.reduceMul, Nat.reduceSub, Nat.reduceLT, Int.reduceAdd, Int.reduceSub, Int.reduceMul, Int.reduceLT, Int.reduceLE, Int.reduceToNat, Int.reduceNeg, reduceIte, reduceCtorEq, SPx, SAx, SSx, appendTo, elemsOf, h4, h5, r4, r5, ho]; rfl) ?_
      simp (maxSteps := 2000000) (disch := omega) only [SA, ofValue, ofCell, bin, intBin, un, idx, Go.Ev.builtin, calleeOf, V.isNilS, V.depthOk, depth1, V.ok1, V.isAgg, V.cells, isConst, Nat.reduceBEq, Nat.reduceEqDiff, ↓reduceIte, Nat.reduceLeDiff, Nat.reduceAdd, Nat.reduceMul, Nat.reduceSub, Nat.reduceLT, Int.reduceAdd, Int.reduceSub, Int.reduceMul, Int.reduceLT, Int.reduceLE, Int.reduceToNat, Int.reduceNeg, reduceIte, reduceCtorEq, true_and, and_true, Nat.zero_add, Nat.le_refl, if_true, ↓reduceIte, resOf, X_own, mv_int, mv_bool, mv_str, mv_sl, mv_nilS, mv_tup, mv2s_nil, mv2s_cons, mv2_int, mv2_bool, mv2_str, mv2_sl, mv2_nilS, Option.map_some, vi, vn, SPx, SAx, SSx, appendTo, elemsOf, h4, h5, r4, r5, ho]
      rfl
end Go.Proofs.YtpocekfifokndaaDoor
namespace Go.Proofs.YtpocekfifokndaaDoor
open Go Go.Ev Go.Pl
set_option maxRecDepth 100000
set_option maxHeartbeats 4000000
theorem wr_u64 {n : Nat} (h : n < 18446744073709551616) : wr .u64 (n : Int) = (n : Int) := by
  simp only [wr, IntKind.wrap]
  have e : IntKind.u64.signed = false := by decide
  have e2 : IntKind.u64.bits = 64 := by decide
  rw [e, e2, Bool.false_and, if_neg (by decide)]
  omega
abbrev vu (n : Nat) : V := .int .u64 (n : Int)
theorem P142 (n : Int) (h1 : -4611686018427387904 < n) (h2 : n < 4611686018427387904) : Ans X 142 [vi n] (.ret (vu n.natAbs)) := by
  refine call_of_X (fn := Tryd.f142) 1 Tryd.func142 rfl (by decide +kernel) rfl ?_ ?_ ?_ ?_
  · rfl
  · exact fun _ => rfl
  · intro v hv; injection hv with hv; subst hv; rfl
  intro s hs hd ho
  have h0 : s.t.get 0 = vi n := by subst hs; rfl
  clear hs
  repeat (first
    | with_reducible first | refine W_seq ?_ | refine W_skip ?_ | refine W_label ?_ | refine W_ret ?_ | refine W_exit ?_ | refine W_block ?_ | refine thenI ?_ | refine thenRet ?_ | refine thenExit ?_ | refine blockRet ?_ | refine blockI ?_ | refine blockExit ?_ | refine blockExitNe rfl ?_
    | (with_reducible refine W_region_k ?_
       intro K hK
       simp (maxSteps := 2000000) (disch := omega) only [SA, ofValue, ofCell, bin, intBin, un, idx, Go.Ev.builtin, calleeOf, V.isNilS, V.depthOk, depth1, V.ok1, V.isAgg, V.cells, isConst, Nat.reduceBEq, Nat.reduceEqDiff, ↓reduceIte, Nat.reduceLeDiff, Nat.reduceAdd, Nat.reduceMul, Nat.reduceSub, Nat.reduceLT, Int.reduceAdd, Int.reduceSub, Int.reduceMul, Int.reduceLT, Int.reduceLE, Int.reduceToNat, Int.reduceNeg, reduceIte, reduceCtorEq, SPx, h0]
       refine hK _ _ ?_
       clear hK K)
    | (refine W_draw_k (by decide +kernel) ?_
       intro K hK
       simp (maxSteps := 2000000) (disch := omega) only [SA, ofValue, ofCell, bin, intBin, un, idx, Go.Ev.builtin, calleeOf, V.isNilS, V.depthOk, depth1, V.ok1, V.isAgg, V.cells, isConst, Nat.reduceBEq, Nat.reduceEqDiff, ↓reduceIte, Nat.reduceLeDiff, Nat.reduceAdd, Nat.reduceMul, Nat.reduceSub, Nat.reduceLT, Int.reduceAdd, Int.reduceSub, Int.reduceMul, Int.reduceLT, Int.reduceLE, Int.reduceToNat, Int.reduceNeg, reduceIte, reduceCtorEq, SD, SPx, h0]
       repeat (refine ⟨by decide +kernel, ?_⟩)
       refine hK _ _ ?_
       clear hK K))
  with_reducible refine W_cond2 (by simp only [SO, ofValue, ofCell, Nat.reduceBEq, Nat.reduceEqDiff, ↓reduceIte]; rfl) (fun h => ?_) (fun h => ?_)
  · have h := of_decide_eq_true h
    have e1 : (0 : Int) - (n + 1) = ((n.natAbs - 1 : Nat) : Int) := by omega
    have e2 : ((n.natAbs - 1 : Nat) : Int) + 1 = (n.natAbs : Int) := by omega
    repeat (first
      | with_reducible first | refine W_seq ?_ | refine W_skip ?_ | refine W_label ?_ | refine W_ret ?_ | refine W_exit ?_ | refine W_block ?_ | refine thenI ?_ | refine thenRet ?_ | refine thenExit ?_ | refine blockRet ?_ | refine blockI ?_ | refine blockExit ?_ | refine blockExitNe rfl ?_
      | (with_reducible refine W_region_k ?_
         intro K hK
         simp (maxSteps := 2000000) (disch := omega) only [SA, ofValue, ofCell, bin, intBin, un, idx, Go.Ev.builtin, calleeOf, V.isNilS, V.depthOk, depth1, V.ok1, V.isAgg, V.cells, isConst, Nat.reduceBEq, Nat.reduceEqDiff, ↓reduceIte, Nat.reduceLeDiff, Nat.reduceAdd, Nat.reduceMul, Nat.reduceSub, Nat.reduceLT, Int.reduceAdd, Int.reduceSub, Int.reduceMul, Int.reduceLT, Int.reduceLE, Int.reduceToNat, Int.reduceNeg, reduceIte, reduceCtorEq, SPx, h0, wr_i64, wr_nat, wr_u64, e1, e2]
         refine hK _ _ ?_
         clear hK K)
      | (refine W_draw_k (by decide +kernel) ?_
         intro K hK
         simp (maxSteps := 2000000) (disch := omega) only [SA, ofValue, ofCell, bin, intBin, un, idx, Go.Ev.builtin, calleeOf, V.isNilS, V.depthOk, depth1, V.ok1, V.isAgg, V.cells, isConst, Nat.reduceBEq, Nat.reduceEqDiff, ↓reduceIte, Nat.reduceLeDiff, Nat.reduceAdd, Nat.reduceMul, Nat.reduceSub, Nat.reduceLT, Int.reduceAdd, Int.reduceSub, Int.reduceMul, Int.reduceLT, Int.reduceLE, Int.reduceToNat, Int.reduceNeg, reduceIte, reduceCtorEq, SD, SPx, h0, wr_i64, wr_nat, wr_u64, e1, e2]
         repeat (refine ⟨by decide +kernel, ?_⟩)
         refine hK _ _ ?_
         clear hK K))
    refine end_ret hd (by simp (maxSteps := 2000000) (disch := omega) only [Tryd.results142, resVars, resVar, SA, ofValue, ofCell, bin, intBin, un, idx, Go.Ev.builtin, calleeOf, V.isNilS, V.depthOk, depth1, V.ok1, V.isAgg, V.cells, isConst, Nat.reduceBEq, Nat.reduceEqDiff, ↓reduceIte, Nat.reduceLeDiff, Nat.reduceAdd, Nat.reduceMul, Nat.reduceSub, Nat.reduceLT, Int.reduceAdd, Int.reduceSub, Int.reduceMul, Int.reduceLT, Int.reduceLE, Int.reduceToNat, Int.reduceNeg, reduceIte, reduceCtorEq, SPx]; rfl) ?_
    simp (maxSteps := 2000000) (disch := omega) only [SA, ofValue, ofCell, bin, intBin, un, idx, Go.Ev.builtin, calleeOf, V.isNilS, V.depthOk, depth1, V.ok1, V.isAgg, V.cells, isConst, Nat.reduceBEq, Nat.reduceEqDiff, ↓reduceIte, Nat.reduceLeDiff, Nat.reduceAdd, Nat.reduceMul, Nat.reduceSub, Nat.reduceLT, Int.reduceAdd, Int.reduceSub, Int.reduceMul, Int.reduceLT, Int.reduceLE, Int.reduceToNat, Int.reduceNeg, reduceIte, reduceCtorEq, true_and, and_true, Nat.zero_add, Nat.le_refl, if_true, ↓reduceIte, resOf, X_own, mv_int, mv_bool, mv_str, mv_sl, mv_nilS, mv_tup, mv2s_nil, mv2s_cons, mv2_int, mv2_bool, mv2_str, mv2_sl, mv2_nilS, Option.map_some, vi, vn, SPx]
  · have h := of_decide_eq_false h
    have e1 : n = (n.natAbs : Int) := by omega
    rw [e1] at h0
    repeat (first
      | with_reducible first | refine W_seq ?_ | refine W_skip ?_ | refine W_label ?_ | refine W_ret ?_ | refine W_exit ?_ | refine W_block ?_ | refine thenI ?_ | refine thenRet ?_ | refine thenExit ?_ | refine blockRet ?_ | refine blockI ?_ | refine blockExit ?_ | refine blockExitNe rfl ?_
      | (with_reducible refine W_region_k ?_
         intro K hK
         simp (maxSteps := 2000000) (disch := omega) only [SA, ofValue, ofCell, bin, intBin, un, idx, Go.Ev.builtin, calleeOf, V.isNilS, V.depthOk, depth1, V.ok1, V.isAgg, V.cells, isConst, Nat.reduceBEq, Nat.reduceEqDiff, ↓reduceIte, Nat.reduceLeDiff, Nat.reduceAdd, Nat.reduceMul, Nat.reduceSub, Nat.reduceLT, Int.reduceAdd, Int.reduceSub, Int.reduceMul, Int.reduceLT, Int.reduceLE, Int.reduceToNat, Int.reduceNeg, reduceIte, reduceCtorEq, SPx, h0, wr_nat, wr_u64]
         refine hK _ _ ?_
         clear hK K)
      | (refine W_draw_k (by decide +kernel) ?_
         intro K hK
         simp (maxSteps := 2000000) (disch := omega) only [SA, ofValue, ofCell, bin, intBin, un, idx, Go.Ev.builtin, calleeOf, V.isNilS, V.depthOk, depth1, V.ok1, V.isAgg, V.cells, isConst, Nat.reduceBEq, Nat.reduceEqDiff, ↓reduceIte, Nat.reduceLeDiff, Nat.reduceAdd, Nat.reduceMul, Nat.reduceSub, Nat.reduceLT, Int.reduceAdd, Int.reduceSub, Int.reduceMul, Int.reduceLT, Int.reduceLE, Int.reduceToNat, Int.reduceNeg, reduceIte, reduceCtorEq, SD, SPx, h0, wr_nat, wr_u64]
         repeat (refine ⟨by decide +kernel, ?_⟩)
         refine hK _ _ ?_
         clear hK K))
    refine end_ret hd (by simp (maxSteps := 2000000) (disch := omega) only [Tryd.results142, resVars, resVar, SA, ofValue, ofCell, bin, intBin, un, idx, Go.Ev.builtin, calleeOf, V.isNilS, V.depthOk, depth1, V.ok1, V.isAgg, V.cells, isConst, Nat.reduceBEq, Nat.reduceEqDiff, ↓reduceIte, Nat.reduceLeDiff, Nat.reduceAdd, Nat.reduceMul, Nat.reduceSub, Nat.reduceLT, Int.reduceAdd, Int.reduceSub, Int.reduceMul, Int.reduceLT, Int.reduceLE, Int.reduceToNat, Int.reduceNeg, reduceIte, reduceCtorEq, SPx]; rfl) ?_
    simp (maxSteps := 2000000) (disch := omega) only [SA, ofValue, ofCell, bin, intBin, un, idx, Go.Ev.builtin, calleeOf, V.isNilS, V.depthOk, depth1, V.ok1, V.isAgg, V.cells, isConst, Nat.reduceBEq, Nat.reduceEqDiff, ↓reduceIte, Nat.reduceLeDiff, Nat.reduceAdd, Nat.reduceMul, Nat.reduceSub, Nat.reduceLT, Int.reduceAdd, Int.reduceSub, Int.reduceMul, Int.reduceLT, Int.reduceLE, Int.reduceToNat, Int.reduceNeg, reduceIte, reduceCtorEq, true_and, and_true, Nat.zero_add, Nat.le_refl, if_true, ↓reduceIte, resOf, X_own, mv_int, mv_bool, mv_str, mv_sl, mv_nilS, mv_tup, mv2s_nil, mv2s_cons, mv2_int, mv2_bool, mv2_str, mv2_sl, mv2_nilS, Option.map_some, vi, vn, SPx]
theorem P141 (x y : Nat) (hx : x < 4611686018427387905) (hy : y < 4611686018427387905) : Ans X 141 [vu x, vu y] (.ret (vu (Nat.gcd x y))) := by
  refine call_of_X (fn := Tryd.f141) 2 Tryd.func141 rfl (by decide +kernel) rfl ?_ ?_ ?_ ?_
  · rfl
  · exact fun _ => rfl
  · intro v hv; injection hv with hv; subst hv; rfl
  intro s hs hd ho
  have h0 : s.t.get 0 = vu x := by subst hs; rfl
  have h1 : s.t.get 1 = vu y := by subst hs; rfl
  clear hs
  repeat (first
    | with_reducible first | refine W_seq ?_ | refine W_skip ?_ | refine W_label ?_ | refine W_ret ?_ | refine W_exit ?_ | refine W_block ?_ | refine thenI ?_ | refine thenRet ?_ | refine thenExit ?_ | refine blockRet ?_ | refine blockI ?_ | refine blockExit ?_ | refine blockExitNe rfl ?_
    | (with_reducible refine W_region_k ?_
       intro K hK
       simp (maxSteps := 2000000) (disch := omega) only [SA, ofValue, ofCell, bin, intBin, un, idx, Go.Ev.builtin, calleeOf, V.isNilS, V.depthOk, depth1, V.ok1, V.isAgg, V.cells, isConst, Nat.reduceBEq, Nat.reduceEqDiff, ↓reduceIte, Nat.reduceLeDiff, Nat.reduceAdd, Nat.reduceMul, Nat.reduceSub, Nat.reduceLT, Int.reduceAdd, Int.reduceSub, Int.reduceMul, Int.reduceLT, Int.reduceLE, Int.reduceToNat, Int.reduceNeg, reduceIte, reduceCtorEq, SPx]
       refine hK _ _ ?_
       clear hK K)
    | (refine W_draw_k (by decide +kernel) ?_
       intro K hK
       simp (maxSteps := 2000000) (disch := omega) only [SA, ofValue, ofCell, bin, intBin, un, idx, Go.Ev.builtin, calleeOf, V.isNilS, V.depthOk, depth1, V.ok1, V.isAgg, V.cells, isConst, Nat.reduceBEq, Nat.reduceEqDiff, ↓reduceIte, Nat.reduceLeDiff, Nat.reduceAdd, Nat.reduceMul, Nat.reduceSub, Nat.reduceLT, Int.reduceAdd, Int.reduceSub, Int.reduceMul, Int.reduceLT, Int.reduceLE, Int.reduceToNat, Int.reduceNeg, reduceIte, reduceCtorEq, SD, SPx]
       repeat (refine ⟨by decide +kernel, ?_⟩)
       refine hK _ _ ?_
       clear hK K))
  refine W_loopg (fun (w : Nat × Nat) s => s.dfs = [] ∧ s.m.out.length = 0 ∧ s.t.get 0 = vu w.1 ∧ s.t.get 1 = vu w.2 ∧ Nat.gcd x y = Nat.gcd w.1 w.2) (fun w => w.2) (x, y) ?_ ?_
  · refine ⟨hd, ?_, ?_, ?_, rfl⟩
    all_goals (try simp (maxSteps := 2000000) (disch := omega) only [SO, ofValue, ofCell, Nat.reduceBEq, Nat.reduceEqDiff, ↓reduceIte, and_self, and_true, true_and, Mem.newRef_eq, Mem.gen_nil, Mem.gen_new, Mem.gen_set, Mem.row_new, Mem.row_setW, Mem.new_out, Mem.set_out, List.length_nil, List.length_cons, Nat.zero_le, Nat.le_refl, Nat.reduceLeDiff, Nat.reduceAdd, and_self, and_true, true_and, Nat.zero_add, h0, h1, ho])
  clear hd h0 h1 ho hx hy
  rintro ⟨u, v⟩ s ⟨hd, ho, h0, h1, hg⟩
  dsimp only at h0 h1 hg
  repeat (first
    | with_reducible first | refine W_seq ?_ | refine W_skip ?_ | refine W_label ?_ | refine W_ret ?_ | refine W_exit ?_ | refine W_block ?_ | refine thenI ?_ | refine thenRet ?_ | refine thenExit ?_ | refine blockRet ?_ | refine blockI ?_ | refine blockExit ?_ | refine blockExitNe rfl ?_
    | (with_reducible refine W_region_k ?_
       intro K hK
       simp (maxSteps := 2000000) (disch := omega) only [SA, ofValue, ofCell, bin, intBin, un, idx, Go.Ev.builtin, calleeOf, V.isNilS, V.depthOk, depth1, V.ok1, V.isAgg, V.cells, isConst, Nat.reduceBEq, Nat.reduceEqDiff, ↓reduceIte, Nat.reduceLeDiff, Nat.reduceAdd, Nat.reduceMul, Nat.reduceSub, Nat.reduceLT, Int.reduceAdd, Int.reduceSub, Int.reduceMul, Int.reduceLT, Int.reduceLE, Int.reduceToNat, Int.reduceNeg, reduceIte, reduceCtorEq, SPx, h0, h1]
       refine hK _ _ ?_
       clear hK K)
    | (refine W_draw_k (by decide +kernel) ?_
       intro K hK
       simp (maxSteps := 2000000) (disch := omega) only [SA, ofValue, ofCell, bin, intBin, un, idx, Go.Ev.builtin, calleeOf, V.isNilS, V.depthOk, depth1, V.ok1, V.isAgg, V.cells, isConst, Nat.reduceBEq, Nat.reduceEqDiff, ↓reduceIte, Nat.reduceLeDiff, Nat.reduceAdd, Nat.reduceMul, Nat.reduceSub, Nat.reduceLT, Int.reduceAdd, Int.reduceSub, Int.reduceMul, Int.reduceLT, Int.reduceLE, Int.reduceToNat, Int.reduceNeg, reduceIte, reduceCtorEq, SD, SPx, h0, h1]
       repeat (refine ⟨by decide +kernel, ?_⟩)
       refine hK _ _ ?_
       clear hK K))
  with_reducible refine W_cond2 (by simp only [SO, ofValue, ofCell, Nat.reduceBEq, Nat.reduceEqDiff, ↓reduceIte]; rfl) (fun h => ?_) (fun h => ?_)
  · have h : v ≠ 0 := by simpa using h
    have hv0 : ¬ ((v : Int) = 0) := by omega
    repeat (first
      | with_reducible first | refine W_seq ?_ | refine W_skip ?_ | refine W_label ?_ | refine W_ret ?_ | refine W_exit ?_ | refine W_block ?_ | refine thenI ?_ | refine thenRet ?_ | refine thenExit ?_ | refine blockRet ?_ | refine blockI ?_ | refine blockExit ?_ | refine blockExitNe rfl ?_
      | (with_reducible refine W_region_k ?_
         intro K hK
         simp (maxSteps := 2000000) (disch := omega) only [SA, ofValue, ofCell, bin, intBin, un, idx, Go.Ev.builtin, calleeOf, V.isNilS, V.depthOk, depth1, V.ok1, V.isAgg, V.cells, isConst, Nat.reduceBEq, Nat.reduceEqDiff, ↓reduceIte, Nat.reduceLeDiff, Nat.reduceAdd, Nat.reduceMul, Nat.reduceSub, Nat.reduceLT, Int.reduceAdd, Int.reduceSub, Int.reduceMul, Int.reduceLT, Int.reduceLE, Int.reduceToNat, Int.reduceNeg, reduceIte, reduceCtorEq, SPx, cast_tmod, h0, h1, hv0, ho]
         refine hK _ _ ?_
         clear hK K)
      | (refine W_draw_k (by decide +kernel) ?_
         intro K hK
         simp (maxSteps := 2000000) (disch := omega) only [SA, ofValue, ofCell, bin, intBin, un, idx, Go.Ev.builtin, calleeOf, V.isNilS, V.depthOk, depth1, V.ok1, V.isAgg, V.cells, isConst, Nat.reduceBEq, Nat.reduceEqDiff, ↓reduceIte, Nat.reduceLeDiff, Nat.reduceAdd, Nat.reduceMul, Nat.reduceSub, Nat.reduceLT, Int.reduceAdd, Int.reduceSub, Int.reduceMul, Int.reduceLT, Int.reduceLE, Int.reduceToNat, Int.reduceNeg, reduceIte, reduceCtorEq, SD, SPx, cast_tmod, h0, h1, hv0, ho]
         repeat (refine ⟨by decide +kernel, ?_⟩)
         refine hK _ _ ?_
         clear hK K))
    refine ⟨(v, u % v), ⟨hd, ?_, ?_, ?_, ?_⟩, Nat.mod_lt _ (by omega)⟩
    all_goals (try simp (maxSteps := 2000000) (disch := omega) only [SO, ofValue, ofCell, Nat.reduceBEq, Nat.reduceEqDiff, ↓reduceIte, and_self, and_true, true_and, Mem.newRef_eq, Mem.gen_nil, Mem.gen_new, Mem.gen_set, Mem.row_new, Mem.row_setW, Mem.new_out, Mem.set_out, List.length_nil, List.length_cons, Nat.zero_le, Nat.le_refl, Nat.reduceLeDiff, Nat.reduceAdd, and_self, and_true, true_and, Nat.zero_add, ho])
    rw [hg, Nat.gcd_comm, Nat.gcd_rec, Nat.gcd_comm]
  · have h : v = 0 := by simpa using h
    subst h
    rw [Nat.gcd_zero_right] at hg
    rw [hg]
    repeat (first
      | with_reducible first | refine W_seq ?_ | refine W_skip ?_ | refine W_label ?_ | refine W_ret ?_ | refine W_exit ?_ | refine W_block ?_ | refine thenI ?_ | refine thenRet ?_ | refine thenExit ?_ | refine blockRet ?_ | refine blockI ?_ | refine blockExit ?_ | refine blockExitNe rfl ?_
      | (with_reducible refine W_region_k ?_
         intro K hK
         simp (maxSteps := 2000000) (disch := omega) only [SA, ofValue, ofCell, bin, intBin, un, idx, Go.Ev.builtin, calleeOf, V.isNilS, V.depthOk, depth1, V.ok1, V.isAgg, V.cells, isConst, Nat.reduceBEq, Nat.reduceEqDiff, ↓reduceIte, Nat.reduceLeDiff, Nat.reduceAdd, Nat.reduceMul, Nat.reduceSub, Nat.reduceLT, Int.reduceAdd, Int.reduceSub, Int.reduceMul, Int.reduceLT, Int.reduceLE, Int.reduceToNat, Int.reduceNeg, reduceIte, reduceCtorEq, SPx, h0]
         refine hK _ _ ?_
         clear hK K)
      | (refine W_draw_k (by decide +kernel) ?_
         intro K hK
         simp (maxSteps := 2000000) (disch := omega) only [SA, ofValue, ofCell, bin, intBin, un, idx, Go.Ev.builtin, calleeOf, V.isNilS, V.depthOk, depth1, V.ok1, V.isAgg, V.cells, isConst, Nat.reduceBEq, Nat.reduceEqDiff, ↓reduceIte, Nat.reduceLeDiff, Nat.reduceAdd, Nat.reduceMul, Nat.reduceSub, Nat.reduceLT, Int.reduceAdd, Int.reduceSub, Int.reduceMul, Int.reduceLT, Int.reduceLE, Int.reduceToNat, Int.reduceNeg, reduceIte, reduceCtorEq, SD, SPx, h0]
         repeat (refine ⟨by decide +kernel, ?_⟩)
         refine hK _ _ ?_
         clear hK K))
    refine end_ret hd (by simp (maxSteps := 2000000) (disch := omega) only [Tryd.results141, resVars, resVar, SA, ofValue, ofCell, bin, intBin, un, idx, Go.Ev.builtin, calleeOf, V.isNilS, V.depthOk, depth1, V.ok1, V.isAgg, V.cells, isConst, Nat.reduceBEq, Nat.reduceEqDiff, ↓reduceIte, Nat.reduceLeDiff, Nat.reduceAdd, Nat.reduceMul, Nat.reduceSub, Nat.reduceLT, Int.reduceAdd, Int.reduceSub, Int.reduceMul, Int.reduceLT, Int.reduceLE, Int.reduceToNat, Int.reduceNeg, reduceIte, reduceCtorEq, SPx]; rfl) ?_
    simp (maxSteps := 2000000) (disch := omega) only [SA, ofValue, ofCell, bin, intBin, un, idx, Go.Ev.builtin, calleeOf, V.isNilS, V.depthOk, depth1, V.ok1, V.isAgg, V.cells, isConst, Nat.reduceBEq, Nat.reduceEqDiff, ↓reduceIte, Nat.reduceLeDiff, Nat.reduceAdd, Nat.reduceMul, Nat.reduceSub, Nat.reduceLT, Int.reduceAdd, Int.reduceSub, Int.reduceMul, Int.reduceLT, Int.reduceLE, Int.reduceToNat, Int.reduceNeg, reduceIte, reduceCtorEq, true_and, and_true, Nat.zero_add, Nat.le_refl, if_true, ↓reduceIte, resOf, X_own, mv_int, mv_bool, mv_str, mv_sl, mv_nilS, mv_tup, mv2s_nil, mv2s_cons, mv2_int, mv2_bool, mv2_str, mv2_sl, mv2_nilS, Option.map_some, vi, vn, SPx]
end Go.Proofs.YtpocekfifokndaaDoor
namespace Go.Proofs.YtpocekfifokndaaDoor
open Go Go.Ev Go.Pl
set_option maxRecDepth 100000
set_option maxHeartbeats 4000000
def isRat (N D : Int) : Bool := decide (1 ≤ D ∧ D ≤ 1048576 ∧ -1099511627776 ≤ N ∧ N ≤ 1099511627776 ∧ Nat.gcd N.natAbs D.natAbs = 1)
theorem rowsOf_agg2 (cs : List V) : rowsOf (.agg cs) = if cs.any V.loose then cs.flatMap rows1 else [] := rfl
theorem P123 (N D : Int) : Ans X 123 [.agg [vi N, vi D]] (.ret (.bool (isRat N D))) := by
  refine call_of_X (fn := Tryd.f123) 1 Tryd.func123 rfl (by decide +kernel) rfl ?_ ?_ ?_ ?_
  · rfl
  · exact fun _ => rfl
  · intro v hv; injection hv with hv; subst hv; rfl
  intro s hs hd ho
  have hm : s.m = ⟨.nil, []⟩ := by subst hs; rfl
  have h0 : s.t.get 0 = .agg [vi N, vi D] := by subst hs; rfl
  clear hs
  by_cases d1 : D ≥ 1
  · by_cases d2 : D ≤ 1048576
    · by_cases d3 : N ≥ -1099511627776
      · by_cases d4 : N ≤ 1099511627776
        · have q1 := P142 N (by omega) (by omega)
          have q2 := P142 D (by omega) (by omega)
          have q3 := P141 N.natAbs D.natAbs (by omega) (by omega)
          repeat (first
            | with_reducible first | refine W_seq ?_ | refine W_skip ?_ | refine W_label ?_ | refine W_ret ?_ | refine W_exit ?_ | refine W_block ?_ | refine thenI ?_ | refine thenRet ?_ | refine thenExit ?_ | refine blockRet ?_ | refine blockI ?_ | refine blockExit ?_ | refine blockExitNe rfl ?_
            | (with_reducible refine W_region_k ?_
               intro K hK
               simp (maxSteps := 2000000) (disch := omega) only [SA, ofValue, ofCell, bin, intBin, un, idx, Go.Ev.builtin, calleeOf, V.isNilS, V.depthOk, depth1, V.ok1, V.isAgg, V.cells, isConst, Nat.reduceBEq, Nat.reduceEqDiff, ↓reduceIte, Nat.reduceLeDiff, Nat.reduceAdd, Nat.reduceMul, Nat.reduceSub, Nat.reduceLT, Int.reduceAdd, Int.reduceSub, Int.reduceMul, Int.reduceLT, Int.reduceLE, Int.reduceToNat, Int.reduceNeg, reduceIte, reduceCtorEq, SPx, SAx, h0, hm, d1, d2, d3, d4, co142, sr142, co141, sr141, q1.iff, q2.iff, q3.iff]
               refine hK _ _ ?_
               clear hK K)
            | (refine W_draw_k (by decide +kernel) ?_
               intro K hK
               simp (maxSteps := 2000000) (disch := omega) only [SA, ofValue, ofCell, bin, intBin, un, idx, Go.Ev.builtin, calleeOf, V.isNilS, V.depthOk, depth1, V.ok1, V.isAgg, V.cells, isConst, Nat.reduceBEq, Nat.reduceEqDiff, ↓reduceIte, Nat.reduceLeDiff, Nat.reduceAdd, Nat.reduceMul, Nat.reduceSub, Nat.reduceLT, Int.reduceAdd, Int.reduceSub, Int.reduceMul, Int.reduceLT, Int.reduceLE, Int.reduceToNat, Int.reduceNeg, reduceIte, reduceCtorEq, SD, SPx, SAx, h0, hm, d1, d2, d3, d4, co142, sr142, co141, sr141, q1.iff, q2.iff, q3.iff]
               repeat (refine ⟨by decide +kernel, ?_⟩)
               refine hK _ _ ?_
               clear hK K))
          refine end_ret hd (by simp (maxSteps := 2000000) (disch := omega) only [Tryd.results123, resVars, resVar, SA, ofValue, ofCell, bin, intBin, un, idx, Go.Ev.builtin, calleeOf, V.isNilS, V.depthOk, depth1, V.ok1, V.isAgg, V.cells, isConst, Nat.reduceBEq, Nat.reduceEqDiff, ↓reduceIte, Nat.reduceLeDiff, Nat.reduceAdd, Nat.reduceMul, Nat.reduceSub, Nat.reduceLT, Int.reduceAdd, Int.reduceSub, Int.reduceMul, Int.reduceLT, Int.reduceLE, Int.reduceToNat, Int.reduceNeg, reduceIte, reduceCtorEq, SPx]; rfl) ?_
          simp (maxSteps := 2000000) (disch := omega) only [SA, ofValue, ofCell, bin, intBin, un, idx, Go.Ev.builtin, calleeOf, V.isNilS, V.depthOk, depth1, V.ok1, V.isAgg, V.cells, isConst, Nat.reduceBEq, Nat.reduceEqDiff, ↓reduceIte, Nat.reduceLeDiff, Nat.reduceAdd, Nat.reduceMul, Nat.reduceSub, Nat.reduceLT, Int.reduceAdd, Int.reduceSub, Int.reduceMul, Int.reduceLT, Int.reduceLE, Int.reduceToNat, Int.reduceNeg, reduceIte, reduceCtorEq, true_and, and_true, Nat.zero_add, Nat.le_refl, if_true, ↓reduceIte, resOf, X_own, mv_int, mv_bool, mv_str, mv_sl, mv_nilS, mv_tup, mv2s_nil, mv2s_cons, mv2_int, mv2_bool, mv2_str, mv2_sl, mv2_nilS, Option.map_some, vi, vn, SPx]
          congr 1
          unfold isRat
          rw [Bool.eq_iff_iff]
          simp
          omega
        · repeat (first
            | with_reducible first | refine W_seq ?_ | refine W_skip ?_ | refine W_label ?_ | refine W_ret ?_ | refine W_exit ?_ | refine W_block ?_ | refine thenI ?_ | refine thenRet ?_ | refine thenExit ?_ | refine blockRet ?_ | refine blockI ?_ | refine blockExit ?_ | refine blockExitNe rfl ?_
            | (with_reducible refine W_region_k ?_
               intro K hK
               simp (maxSteps := 2000000) (disch := omega) only [SA, ofValue, ofCell, bin, intBin, un, idx, Go.Ev.builtin, calleeOf, V.isNilS, V.depthOk, depth1, V.ok1, V.isAgg, V.cells, isConst, Nat.reduceBEq, Nat.reduceEqDiff, ↓reduceIte, Nat.reduceLeDiff, Nat.reduceAdd, Nat.reduceMul, Nat.reduceSub, Nat.reduceLT, Int.reduceAdd, Int.reduceSub, Int.reduceMul, Int.reduceLT, Int.reduceLE, Int.reduceToNat, Int.reduceNeg, reduceIte, reduceCtorEq, SPx, SAx, h0, hm, d1, d2, d3, d4]
               refine hK _ _ ?_
               clear hK K)
            | (refine W_draw_k (by decide +kernel) ?_
               intro K hK
               simp (maxSteps := 2000000) (disch := omega) only [SA, ofValue, ofCell, bin, intBin, un, idx, Go.Ev.builtin, calleeOf, V.isNilS, V.depthOk, depth1, V.ok1, V.isAgg, V.cells, isConst, Nat.reduceBEq, Nat.reduceEqDiff, ↓reduceIte, Nat.reduceLeDiff, Nat.reduceAdd, Nat.reduceMul, Nat.reduceSub, Nat.reduceLT, Int.reduceAdd, Int.reduceSub, Int.reduceMul, Int.reduceLT, Int.reduceLE, Int.reduceToNat, Int.reduceNeg, reduceIte, reduceCtorEq, SD, SPx, SAx, h0, hm, d1, d2, d3, d4]
               repeat (refine ⟨by decide +kernel, ?_⟩)
               refine hK _ _ ?_
               clear hK K))
          refine end_ret hd (by simp (maxSteps := 2000000) (disch := omega) only [Tryd.results123, resVars, resVar, SA, ofValue, ofCell, bin, intBin, un, idx, Go.Ev.builtin, calleeOf, V.isNilS, V.depthOk, depth1, V.ok1, V.isAgg, V.cells, isConst, Nat.reduceBEq, Nat.reduceEqDiff, ↓reduceIte, Nat.reduceLeDiff, Nat.reduceAdd, Nat.reduceMul, Nat.reduceSub, Nat.reduceLT, Int.reduceAdd, Int.reduceSub, Int.reduceMul, Int.reduceLT, Int.reduceLE, Int.reduceToNat, Int.reduceNeg, reduceIte, reduceCtorEq, SPx]; rfl) ?_
          simp (maxSteps := 2000000) (disch := omega) only [SA, ofValue, ofCell, bin, intBin, un, idx, Go.Ev.builtin, calleeOf, V.isNilS, V.depthOk, depth1, V.ok1, V.isAgg, V.cells, isConst, Nat.reduceBEq, Nat.reduceEqDiff, ↓reduceIte, Nat.reduceLeDiff, Nat.reduceAdd, Nat.reduceMul, Nat.reduceSub, Nat.reduceLT, Int.reduceAdd, Int.reduceSub, Int.reduceMul, Int.reduceLT, Int.reduceLE, Int.reduceToNat, Int.reduceNeg, reduceIte, reduceCtorEq, true_and, and_true, Nat.zero_add, Nat.le_refl, if_true, ↓reduceIte, resOf, X_own, mv_int, mv_bool, mv_str, mv_sl, mv_nilS, mv_tup, mv2s_nil, mv2s_cons, mv2_int, mv2_bool, mv2_str, mv2_sl, mv2_nilS, Option.map_some, vi, vn, SPx]
          congr 1
          unfold isRat
          simp; omega
      · repeat (first
          | with_reducible first | refine W_seq ?_ | refine W_skip ?_ | refine W_label ?_ | refine W_ret ?_ | refine W_exit ?_ | refine W_block ?_ | refine thenI ?_ | refine thenRet ?_ | refine thenExit ?_ | refine blockRet ?_ | refine blockI ?_ | refine blockExit ?_ | refine blockExitNe rfl ?_
          | (with_reducible refine W_region_k ?_
             intro K hK
             simp (maxSteps := 2000000) (disch := omega) only [SA, ofValue, ofCell, bin, intBin, un, idx, Go.Ev.builtin, calleeOf, V.isNilS, V.depthOk, depth1, V.ok1, V.isAgg, V.cells, isConst, Nat.reduceBEq, Nat.reduceEqDiff, ↓reduceIte, Nat.reduceLeDiff, Nat.reduceAdd, Nat.reduceMul, Nat.reduceSub, Nat.reduceLT, Int.reduceAdd, Int.reduceSub, Int.reduceMul, Int.reduceLT, Int.reduceLE, Int.reduceToNat, Int.reduceNeg, reduceIte, reduceCtorEq, SPx, SAx, h0, hm, d1, d2, d3]
             refine hK _ _ ?_
             clear hK K)
          | (refine W_draw_k (by decide +kernel) ?_
             intro K hK
             simp (maxSteps := 2000000) (disch := omega) only [SA, ofValue, ofCell, bin, intBin, un, idx, Go.Ev.builtin, calleeOf, V.isNilS, V.depthOk, depth1, V.ok1, V.isAgg, V.cells, isConst, Nat.reduceBEq, Nat.reduceEqDiff, ↓reduceIte, Nat.reduceLeDiff, Nat.reduceAdd, Nat.reduceMul, Nat.reduceSub, Nat.reduceLT, Int.reduceAdd, Int.reduceSub, Int.reduceMul, Int.reduceLT, Int.reduceLE, Int.reduceToNat, Int.reduceNeg, reduceIte, reduceCtorEq, SD, SPx, SAx, h0, hm, d1, d2, d3]
             repeat (refine ⟨by decide +kernel, ?_⟩)
             refine hK _ _ ?_
             clear hK K))
        refine end_ret hd (by simp (maxSteps := 2000000) (disch := omega) only [Tryd.results123, resVars, resVar, SA, ofValue, ofCell, bin, intBin, un, idx, Go.Ev.builtin, calleeOf, V.isNilS, V.depthOk, depth1, V.ok1, V.isAgg, V.cells, isConst, Nat.reduceBEq, Nat.reduceEqDiff, ↓reduceIte, Nat.reduceLeDiff, Nat.reduceAdd, Nat.reduceMul, Nat.reduceSub, Nat.reduceLT, Int.reduceAdd, Int.reduceSub, Int.reduceMul, Int.reduceLT, Int.reduceLE, Int.reduceToNat, Int.reduceNeg, reduceIte, reduceCtorEq, SPx]; rfl) ?_
        simp (maxSteps := 2000000) (disch := omega) only [SA, ofValue, ofCell, bin, intBin, un, idx, Go.Ev.builtin, calleeOf, V.isNilS, V.depthOk, depth1, V.ok1, V.isAgg, V.cells, isConst, Nat.reduceBEq, Nat.reduceEqDiff, ↓reduceIte, Nat.reduceLeDiff, Nat.reduceAdd, Nat.reduceMul, Nat.reduceSub, Nat.reduceLT, Int.reduceAdd, Int.reduceSub, Int.reduceMul, Int.reduceLT, Int.reduceLE, Int.reduceToNat, Int.reduceNeg, reduceIte, reduceCtorEq, true_and, and_true, Nat.zero_add, Nat.le_refl, if_true, ↓reduceIte, resOf, X_own, mv_int, mv_bool, mv_str, mv_sl, mv_nilS, mv_tup, mv2s_nil, mv2s_cons, mv2_int, mv2_bool, mv2_str, mv2_sl, mv2_nilS, Option.map_some, vi, vn, SPx]
        congr 1
        unfold isRat
        simp; omega
    · repeat (first
        | with_reducible first | refine W_seq ?_ | refine W_skip ?_ | refine W_label ?_ | refine W_ret ?_ | refine W_exit ?_ | refine W_block ?_ | refine thenI ?_ | refine thenRet ?_ | refine thenExit ?_ | refine blockRet ?_ | refine blockI ?_ | refine blockExit ?_ | refine blockExitNe rfl ?_
        | (with_reducible refine W_region_k ?_
           intro K hK
           simp (maxSteps := 2000000) (disch := omega) only [SA, ofValue, ofCell, bin, intBin, un, idx, Go.Ev.builtin, calleeOf, V.isNilS, V.depthOk, depth1, V.ok1, V.isAgg, V.cells, isConst, Nat.reduceBEq, Nat.reduceEqDiff, ↓reduceIte, Nat.reduceLeDiff, Nat.reduceAdd, Nat.reduceMul, Nat.reduceSub, Nat.reduceLT, Int.reduceAdd, Int.reduceSub, Int.reduceMul, Int.reduceLT, Int.reduceLE, Int.reduceToNat, Int.reduceNeg, reduceIte, reduceCtorEq, SPx, SAx, h0, hm, d1, d2]
           refine hK _ _ ?_
           clear hK K)
        | (refine W_draw_k (by decide +kernel) ?_
           intro K hK
           simp (maxSteps := 2000000) (disch := omega) only [SA, ofValue, ofCell, bin, intBin, un, idx, Go.Ev.builtin, calleeOf, V.isNilS, V.depthOk, depth1, V.ok1, V.isAgg, V.cells, isConst, Nat.reduceBEq, Nat.reduceEqDiff, ↓reduceIte, Nat.reduceLeDiff, Nat.reduceAdd, Nat.reduceMul, Nat.reduceSub, Nat.reduceLT, Int.reduceAdd, Int.reduceSub, Int.reduceMul, Int.reduceLT, Int.reduceLE, Int.reduceToNat, Int.reduceNeg, reduceIte, reduceCtorEq, SD, SPx, SAx, h0, hm, d1, d2]
           repeat (refine ⟨by decide +kernel, ?_⟩)
           refine hK _ _ ?_
           clear hK K))
      refine end_ret hd (by simp (maxSteps := 2000000) (disch := omega) only [Tryd.results123, resVars, resVar, SA, ofValue, ofCell, bin, intBin, un, idx, Go.Ev.builtin, calleeOf, V.isNilS, V.depthOk, depth1, V.ok1, V.isAgg, V.cells, isConst, Nat.reduceBEq, Nat.reduceEqDiff, ↓reduceIte, Nat.reduceLeDiff, Nat.reduceAdd, Nat.reduceMul, Nat.reduceSub, Nat.reduceLT, Int.reduceAdd, Int.reduceSub, Int.reduceMul, Int.reduceLT, Int.reduceLE, Int.reduceToNat, Int.reduceNeg, reduceIte, reduceCtorEq, SPx]; rfl) ?_
      simp (maxSteps := 2000000) (disch := omega) only [SA, ofValue, ofCell, bin, intBin, un, idx, Go.Ev.builtin, calleeOf, V.isNilS, V.depthOk, depth1, V.ok1, V.isAgg, V.cells, isConst, Nat.reduceBEq, Nat.reduceEqDiff, ↓reduceIte, Nat.reduceLeDiff, Nat.reduceAdd, Nat.reduceMul, Nat.reduceSub, Nat.reduceLT, Int.reduceAdd, Int.reduceSub, Int.reduceMul, Int.reduceLT, Int.reduceLE, Int.reduceToNat, Int.reduceNeg, reduceIte, reduceCtorEq, true_and, and_true, Nat.zero_add, Nat.le_refl, if_true, ↓reduceIte, resOf, X_own, mv_int, mv_bool, mv_str, mv_sl, mv_nilS, mv_tup, mv2s_nil, mv2s_cons, mv2_int, mv2_bool, mv2_str, mv2_sl, mv2_nilS, Option.map_some, vi, vn, SPx]
      congr 1
      unfold isRat
      simp; omega
  · repeat (first
      | with_reducible first | refine W_seq ?_ | refine W_skip ?_ | refine W_label ?_ | refine W_ret ?_ | refine W_exit ?_ | refine W_block ?_ | refine thenI ?_ | refine thenRet ?_ | refine thenExit ?_ | refine blockRet ?_ | refine blockI ?_ | refine blockExit ?_ | refine blockExitNe rfl ?_
      | (with_reducible refine W_region_k ?_
         intro K hK
         simp (maxSteps := 2000000) (disch := omega) only [SA, ofValue, ofCell, bin, intBin, un, idx, Go.Ev.builtin, calleeOf, V.isNilS, V.depthOk, depth1, V.ok1, V.isAgg, V.cells, isConst, Nat.reduceBEq, Nat.reduceEqDiff, ↓reduceIte, Nat.reduceLeDiff, Nat.reduceAdd, Nat.reduceMul, Nat.reduceSub, Nat.reduceLT, Int.reduceAdd, Int.reduceSub, Int.reduceMul, Int.reduceLT, Int.reduceLE, Int.reduceToNat, Int.reduceNeg, reduceIte, reduceCtorEq, SPx, SAx, h0, hm, d1]
         refine hK _ _ ?_
         clear hK K)
      | (refine W_draw_k (by decide +kernel) ?_
         intro K hK
         simp (maxSteps := 2000000) (disch := omega) only [SA, ofValue, ofCell, bin, intBin, un, idx, Go.Ev.builtin, calleeOf, V.isNilS, V.depthOk, depth1, V.ok1, V.isAgg, V.cells, isConst, Nat.reduceBEq, Nat.reduceEqDiff, ↓reduceIte, Nat.reduceLeDiff, Nat.reduceAdd, Nat.reduceMul, Nat.reduceSub, Nat.reduceLT, Int.reduceAdd, Int.reduceSub, Int.reduceMul, Int.reduceLT, Int.reduceLE, Int.reduceToNat, Int.reduceNeg, reduceIte, reduceCtorEq, SD, SPx, SAx, h0, hm, d1]
         repeat (refine ⟨by decide +kernel, ?_⟩)
         refine hK _ _ ?_
         clear hK K))
    refine end_ret hd (by simp (maxSteps := 2000000) (disch := omega) only [Tryd.results123, resVars, resVar, SA, ofValue, ofCell, bin, intBin, un, idx, Go.Ev.builtin, calleeOf, V.isNilS, V.depthOk, depth1, V.ok1, V.isAgg, V.cells, isConst, Nat.reduceBEq, Nat.reduceEqDiff, ↓reduceIte, Nat.reduceLeDiff, Nat.reduceAdd, Nat.reduceMul, Nat.reduceSub, Nat.reduceLT, Int.reduceAdd, Int.reduceSub, Int.reduceMul, Int.reduceLT, Int.reduceLE, Int.reduceToNat, Int.reduceNeg, reduceIte, reduceCtorEq, SPx]; rfl) ?_
    simp (maxSteps := 2000000) (disch := omega) only [SA, ofValue, ofCell, bin, intBin, un, idx, Go.Ev.builtin, calleeOf, V.isNilS, V.depthOk, depth1, V.ok1, V.isAgg, V.cells, isConst, Nat.reduceBEq, Nat.reduceEqDiff, ↓reduceIte, Nat.reduceLeDiff, Nat.reduceAdd, Nat.reduceMul, Nat.reduceSub, Nat.reduceLT, Int.reduceAdd, Int.reduceSub, Int.reduceMul, Int.reduceLT, Int.reduceLE, Int.reduceToNat, Int.reduceNeg, reduceIte, reduceCtorEq, true_and, and_true, Nat.zero_add, Nat.le_refl, if_true, ↓reduceIte, resOf, X_own, mv_int, mv_bool, mv_str, mv_sl, mv_nilS, mv_tup, mv2s_nil, mv2s_cons, mv2_int, mv2_bool, mv2_str, mv2_sl, mv2_nilS, Option.map_some, vi, vn, SPx]
    congr 1
    unfold isRat
    simp; omega
end Go.Proofs.YtpocekfifokndaaDoor
namespace Go.Proofs.YtpocekfifokndaaDoor
open Go Go.Ev Go.Pl
set_option maxRecDepth 100000
set_option maxHeartbeats 4000000
theorem rowsOf_agg3 (cs : List V) : rowsOf (.agg cs) = if cs.any V.loose then cs.flatMap rows1 else [] := rfl
theorem rows1_rs (r : Ref) (t : TypeId) (o l : Nat) : rows1 (.rs r t o l) = [(r.d, r.s)] := rfl
theorem rows1_int (k : IntKind) (n : Int) : rows1 (.int k n) = [] := rfl
theorem rows1_sl (es : List V) : rows1 (.sl es) = [] := rfl
theorem D140n (own oM : Go.Ev.Rows) : ∃ k, evD X k 140 [.ptr ⟨1, 4, 0, 1⟩ 0 0, .ptr ⟨1, 5, 0, 1⟩ 0 0] [own, oM] none = some [own, oM] := by
  refine evD_of (X := X) (fn := Tryd.f140) Tryd.func140 rfl rfl ⟨by decide +kernel, Nat.le_of_ble_eq_true rfl, rfl, co140⟩ rfl ?_
  have hm : (enter [V.ptr ⟨1, 4, 0, 1⟩ 0 0, V.ptr ⟨1, 5, 0, 1⟩ 0 0] [own, oM]).m = ⟨.nil, [own, oM]⟩ := rfl
  have hd : (enter [V.ptr ⟨1, 4, 0, 1⟩ 0 0, V.ptr ⟨1, 5, 0, 1⟩ 0 0] [own, oM]).dfs = [] := rfl
  generalize enter [V.ptr ⟨1, 4, 0, 1⟩ 0 0, V.ptr ⟨1, 5, 0, 1⟩ 0 0] [own, oM] = s at *
  refine WL_k ?_
  intro K hK
  simp (maxSteps := 2000000) (disch := omega) only [SA, ofValue, ofCell, bin, intBin, un, idx, Go.Ev.builtin, calleeOf, V.isNilS, V.depthOk, depth1, V.ok1, V.isAgg, V.cells, isConst, Nat.reduceBEq, Nat.reduceEqDiff, ↓reduceIte, Nat.reduceLeDiff, Nat.reduceAdd, Nat.reduceMul, Nat.reduceSub, Nat.reduceLT, Int.reduceAdd, Int.reduceSub, Int.reduceMul, Int.reduceLT, Int.reduceLE, Int.reduceToNat, Int.reduceNeg, reduceIte, reduceCtorEq, SPx, hm]
  refine hK _ _ ⟨rfl, ?_⟩
  clear hK K
  repeat (first
    | with_reducible first | refine W_seq ?_ | refine W_skip ?_ | refine W_label ?_ | refine W_ret ?_ | refine W_exit ?_ | refine W_block ?_ | refine thenI ?_ | refine thenRet ?_ | refine thenExit ?_ | refine blockRet ?_ | refine blockI ?_ | refine blockExit ?_ | refine blockExitNe rfl ?_
    | (with_reducible refine W_region_k ?_
       intro K hK
       simp (maxSteps := 2000000) (disch := omega) only [SA, ofValue, ofCell, bin, intBin, un, idx, Go.Ev.builtin, calleeOf, V.isNilS, V.depthOk, depth1, V.ok1, V.isAgg, V.cells, isConst, Nat.reduceBEq, Nat.reduceEqDiff, ↓reduceIte, Nat.reduceLeDiff, Nat.reduceAdd, Nat.reduceMul, Nat.reduceSub, Nat.reduceLT, Int.reduceAdd, Int.reduceSub, Int.reduceMul, Int.reduceLT, Int.reduceLE, Int.reduceToNat, Int.reduceNeg, reduceIte, reduceCtorEq, SPx, bin, eqOk, eqT, isConst, Bool.or_true, Option.map_some]
       refine hK _ _ ?_
       clear hK K)
    | (refine W_draw_k (by decide +kernel) ?_
       intro K hK
       simp (maxSteps := 2000000) (disch := omega) only [SA, ofValue, ofCell, bin, intBin, un, idx, Go.Ev.builtin, calleeOf, V.isNilS, V.depthOk, depth1, V.ok1, V.isAgg, V.cells, isConst, Nat.reduceBEq, Nat.reduceEqDiff, ↓reduceIte, Nat.reduceLeDiff, Nat.reduceAdd, Nat.reduceMul, Nat.reduceSub, Nat.reduceLT, Int.reduceAdd, Int.reduceSub, Int.reduceMul, Int.reduceLT, Int.reduceLE, Int.reduceToNat, Int.reduceNeg, reduceIte, reduceCtorEq, SD, SPx, bin, eqOk, eqT, isConst, Bool.or_true, Option.map_some]
       repeat (refine ⟨by decide +kernel, ?_⟩)
       refine hK _ _ ?_
       clear hK K))
  with_reducible refine W_cond2 (by simp only [SO, ofValue, ofCell, Nat.reduceBEq, Nat.reduceEqDiff, ↓reduceIte]; rfl) (fun h => ?_) (fun h => ?_)
  · simp at h
  · repeat (first
      | with_reducible first | refine W_seq ?_ | refine W_skip ?_ | refine W_label ?_ | refine W_ret ?_ | refine W_exit ?_ | refine W_block ?_ | refine thenI ?_ | refine thenRet ?_ | refine thenExit ?_ | refine blockRet ?_ | refine blockI ?_ | refine blockExit ?_ | refine blockExitNe rfl ?_
      | (with_reducible refine W_region_k ?_
         intro K hK
         simp (maxSteps := 2000000) (disch := omega) only [SA, ofValue, ofCell, bin, intBin, un, idx, Go.Ev.builtin, calleeOf, V.isNilS, V.depthOk, depth1, V.ok1, V.isAgg, V.cells, isConst, Nat.reduceBEq, Nat.reduceEqDiff, ↓reduceIte, Nat.reduceLeDiff, Nat.reduceAdd, Nat.reduceMul, Nat.reduceSub, Nat.reduceLT, Int.reduceAdd, Int.reduceSub, Int.reduceMul, Int.reduceLT, Int.reduceLE, Int.reduceToNat, Int.reduceNeg, reduceIte, reduceCtorEq, SPx]
         refine hK _ _ ?_
         clear hK K)
      | (refine W_draw_k (by decide +kernel) ?_
         intro K hK
         simp (maxSteps := 2000000) (disch := omega) only [SA, ofValue, ofCell, bin, intBin, un, idx, Go.Ev.builtin, calleeOf, V.isNilS, V.depthOk, depth1, V.ok1, V.isAgg, V.cells, isConst, Nat.reduceBEq, Nat.reduceEqDiff, ↓reduceIte, Nat.reduceLeDiff, Nat.reduceAdd, Nat.reduceMul, Nat.reduceSub, Nat.reduceLT, Int.reduceAdd, Int.reduceSub, Int.reduceMul, Int.reduceLT, Int.reduceLE, Int.reduceToNat, Int.reduceNeg, reduceIte, reduceCtorEq, SD, SPx]
         repeat (refine ⟨by decide +kernel, ?_⟩)
         refine hK _ _ ?_
         clear hK K))
    exact ⟨.inl rfl, by simp [hd], rfl⟩
theorem D140p (own oM : Go.Ev.Rows) (k : Int) (x4 x5 : V) (h4 : (⟨own, [oM]⟩ : Mem).row ⟨1, 4, 0, 1⟩ = some ⟨1, 54, false, false, [x4]⟩) (h5 : (⟨own, [oM]⟩ : Mem).row ⟨1, 5, 0, 1⟩ = some ⟨1, 23, false, false, [x5]⟩) :
    ∃ j, evD X j 140 [.ptr ⟨1, 4, 0, 1⟩ 0 0, .ptr ⟨1, 5, 0, 1⟩ 0 0] [own, oM] (some (.ifc 23 (vi k))) =
      some [((own.upd 4 500 ⟨(own.get 4 500).g + 1, 0, true, false, []⟩).upd 4 0 ⟨1, 54, false, false, [.agg [.rs ⟨1, 4, 500, (own.get 4 500).g + 1⟩ 0 0 0, vi 0]]⟩).upd 5 0 ⟨1, 23, false, false, [vi k]⟩, oM] := by
  refine evD_of (X := X) (fn := Tryd.f140) Tryd.func140 rfl rfl ⟨by decide +kernel, Nat.le_of_ble_eq_true rfl, rfl, co140⟩ rfl ?_
  have hm : (enter [V.ptr ⟨1, 4, 0, 1⟩ 0 0, V.ptr ⟨1, 5, 0, 1⟩ 0 0] [own, oM]).m = ⟨.nil, [own, oM]⟩ := rfl
  have hd : (enter [V.ptr ⟨1, 4, 0, 1⟩ 0 0, V.ptr ⟨1, 5, 0, 1⟩ 0 0] [own, oM]).dfs = [] := rfl
  have t0 : (enter [V.ptr ⟨1, 4, 0, 1⟩ 0 0, V.ptr ⟨1, 5, 0, 1⟩ 0 0] [own, oM]).t.get 0 = .ptr ⟨1, 4, 0, 1⟩ 0 0 := rfl
  have t1 : (enter [V.ptr ⟨1, 4, 0, 1⟩ 0 0, V.ptr ⟨1, 5, 0, 1⟩ 0 0] [own, oM]).t.get 1 = .ptr ⟨1, 5, 0, 1⟩ 0 0 := rfl
  generalize enter [V.ptr ⟨1, 4, 0, 1⟩ 0 0, V.ptr ⟨1, 5, 0, 1⟩ 0 0] [own, oM] = s at *
  have h4' : (⟨.nil, [own, oM]⟩ : Mem).row ⟨1, 4, 0, 1⟩ = some ⟨1, 54, false, false, [x4]⟩ := by rw [row_outer _ _ _ _ (by simp), h4]
  have h5' : (⟨.nil, [own, oM]⟩ : Mem).row ⟨1, 5, 0, 1⟩ = some ⟨1, 23, false, false, [x5]⟩ := by rw [row_outer _ _ _ _ (by simp), h5]
  refine WL_k ?_
  intro K hK
  simp (maxSteps := 2000000) (disch := omega) only [SA, ofValue, ofCell, bin, intBin, un, idx, Go.Ev.builtin, calleeOf, V.isNilS, V.depthOk, depth1, V.ok1, V.isAgg, V.cells, isConst, Nat.reduceBEq, Nat.reduceEqDiff, ↓reduceIte, Nat.reduceLeDiff, Nat.reduceAdd, Nat.reduceMul, Nat.reduceSub, Nat.reduceLT, Int.reduceAdd, Int.reduceSub, Int.reduceMul, Int.reduceLT, Int.reduceLE, Int.reduceToNat, Int.reduceNeg, reduceIte, reduceCtorEq, SPx, hm]
  refine hK _ _ ⟨rfl, ?_⟩
  clear hK K
  repeat (first
    | with_reducible first | refine W_seq ?_ | refine W_skip ?_ | refine W_label ?_ | refine W_ret ?_ | refine W_exit ?_ | refine W_block ?_ | refine thenI ?_ | refine thenRet ?_ | refine thenExit ?_ | refine blockRet ?_ | refine blockI ?_ | refine blockExit ?_ | refine blockExitNe rfl ?_
    | (with_reducible refine W_region_k ?_
       intro K hK
       simp (maxSteps := 2000000) (disch := omega) only [SA, ofValue, ofCell, bin, intBin, un, idx, Go.Ev.builtin, calleeOf, V.isNilS, V.depthOk, depth1, V.ok1, V.isAgg, V.cells, isConst, Nat.reduceBEq, Nat.reduceEqDiff, ↓reduceIte, Nat.reduceLeDiff, Nat.reduceAdd, Nat.reduceMul, Nat.reduceSub, Nat.reduceLT, Int.reduceAdd, Int.reduceSub, Int.reduceMul, Int.reduceLT, Int.reduceLE, Int.reduceToNat, Int.reduceNeg, reduceIte, reduceCtorEq, SPx, bin, eqOk, eqT, isConst, Bool.or_true, Option.map_some]
       refine hK _ _ ?_
       clear hK K)
    | (refine W_draw_k (by decide +kernel) ?_
       intro K hK
       simp (maxSteps := 2000000) (disch := omega) only [SA, ofValue, ofCell, bin, intBin, un, idx, Go.Ev.builtin, calleeOf, V.isNilS, V.depthOk, depth1, V.ok1, V.isAgg, V.cells, isConst, Nat.reduceBEq, Nat.reduceEqDiff, ↓reduceIte, Nat.reduceLeDiff, Nat.reduceAdd, Nat.reduceMul, Nat.reduceSub, Nat.reduceLT, Int.reduceAdd, Int.reduceSub, Int.reduceMul, Int.reduceLT, Int.reduceLE, Int.reduceToNat, Int.reduceNeg, reduceIte, reduceCtorEq, SD, SPx, bin, eqOk, eqT, isConst, Bool.or_true, Option.map_some]
       repeat (refine ⟨by decide +kernel, ?_⟩)
       refine hK _ _ ?_
       clear hK K))
  with_reducible refine W_cond2 (by simp only [SO, ofValue, ofCell, Nat.reduceBEq, Nat.reduceEqDiff, ↓reduceIte]; rfl) (fun h => ?_) (fun h => ?_)
  · repeat (first
      | with_reducible first | refine W_seq ?_ | refine W_skip ?_ | refine W_label ?_ | refine W_ret ?_ | refine W_exit ?_ | refine W_block ?_ | refine thenI ?_ | refine thenRet ?_ | refine thenExit ?_ | refine blockRet ?_ | refine blockI ?_ | refine blockExit ?_ | refine blockExitNe rfl ?_
      | (with_reducible refine W_region_k ?_
         intro K hK
         simp (maxSteps := 2000000) (disch := omega) only [SA, ofValue, ofCell, bin, intBin, un, idx, Go.Ev.builtin, calleeOf, V.isNilS, V.depthOk, depth1, V.ok1, V.isAgg, V.cells, isConst, Nat.reduceBEq, Nat.reduceEqDiff, ↓reduceIte, Nat.reduceLeDiff, Nat.reduceAdd, Nat.reduceMul, Nat.reduceSub, Nat.reduceLT, Int.reduceAdd, Int.reduceSub, Int.reduceMul, Int.reduceLT, Int.reduceLE, Int.reduceToNat, Int.reduceNeg, reduceIte, reduceCtorEq, SPx, SAx, SSx, appendTo, elemsOf, t0, t1, h4', h5', co133, sr133, (P133 k).iff, Mem.rows_new, Mem.rows_lit, rowsOf_agg3, rows1_rs, rows1_int, rows1_sl]
         refine hK _ _ ?_
         clear hK K)
      | (refine W_draw_k (by decide +kernel) ?_
         intro K hK
         simp (maxSteps := 2000000) (disch := omega) only [SA, ofValue, ofCell, bin, intBin, un, idx, Go.Ev.builtin, calleeOf, V.isNilS, V.depthOk, depth1, V.ok1, V.isAgg, V.cells, isConst, Nat.reduceBEq, Nat.reduceEqDiff, ↓reduceIte, Nat.reduceLeDiff, Nat.reduceAdd, Nat.reduceMul, Nat.reduceSub, Nat.reduceLT, Int.reduceAdd, Int.reduceSub, Int.reduceMul, Int.reduceLT, Int.reduceLE, Int.reduceToNat, Int.reduceNeg, reduceIte, reduceCtorEq, SD, SPx, SAx, SSx, appendTo, elemsOf, t0, t1, h4', h5', co133, sr133, (P133 k).iff, Mem.rows_new, Mem.rows_lit, rowsOf_agg3, rows1_rs, rows1_int, rows1_sl]
         repeat (refine ⟨by decide +kernel, ?_⟩)
         refine hK _ _ ?_
         clear hK K))
    refine ⟨.inl rfl, by simp [hd], ?_⟩
    simp [Mem.new, Mem.set, outSet]
  · simp at h
theorem fin118 {oM : Go.Ev.Rows} {s : St} {es : List Nat} {sh k : Int} (hd : s.dfs = [(140, [.ptr ⟨1, 4, 0, 1⟩ 0 0, .ptr ⟨1, 5, 0, 1⟩ 0 0])]) (ho : s.m.out = [oM]) (h4 : s.t.get 4 = .ptr ⟨1, 4, 0, 1⟩ 0 0) (h5 : s.t.get 5 = .ptr ⟨1, 5, 0, 1⟩ 0 0)
    (r4 : s.m.row ⟨1, 4, 0, 1⟩ = some ⟨1, 54, false, false, [.agg [.sl (nats es), vi sh]]⟩) (r5 : s.m.row ⟨1, 5, 0, 1⟩ = some ⟨1, 23, false, false, [vi k]⟩) :
    finQ X Tryd.f118 (.ret (.tup [.agg [.sl (nats es), vi sh], vi k]), [oM]) .ret s := by
  obtain ⟨t, ⟨own, out⟩, dfs⟩ := s
  dsimp only at hd ho h4 h5 r4 r5
  subst ho
  refine fin_ret1 (own := own) (vs := [.agg [.sl (nats es), vi sh], vi k]) hd (D140n own oM) ?_ rfl rfl
  simp (maxSteps := 2000000) (disch := omega) only [SA, ofValue, ofCell, bin, intBin, un, idx, Go.Ev.builtin, calleeOf, V.isNilS, V.depthOk, depth1, V.ok1, V.isAgg, V.cells, isConst, Nat.reduceBEq, Nat.reduceEqDiff, ↓reduceIte, Nat.reduceLeDiff, Nat.reduceAdd, Nat.reduceMul, Nat.reduceSub, Nat.reduceLT, Int.reduceAdd, Int.reduceSub, Int.reduceMul, Int.reduceLT, Int.reduceLE, Int.reduceToNat, Int.reduceNeg, reduceIte, reduceCtorEq, SPx, Tryd.results118, resVars, resVar, h4, h5, r4, r5]
theorem fin118p {oM : Go.Ev.Rows} {s : St} {x4 x5 : V} {k : Int} (hd : s.dfs = [(140, [.ptr ⟨1, 4, 0, 1⟩ 0 0, .ptr ⟨1, 5, 0, 1⟩ 0 0])]) (ho : s.m.out = [oM]) (h4 : s.t.get 4 = .ptr ⟨1, 4, 0, 1⟩ 0 0) (h5 : s.t.get 5 = .ptr ⟨1, 5, 0, 1⟩ 0 0)
    (r4 : s.m.row ⟨1, 4, 0, 1⟩ = some ⟨1, 54, false, false, [x4]⟩) (r5 : s.m.row ⟨1, 5, 0, 1⟩ = some ⟨1, 23, false, false, [x5]⟩) :
    finQ X Tryd.f118 (.ret (.tup [.agg [.sl [], vi 0], vi k]), [oM]) (.panic (.ifc 23 (vi k))) s := by
  obtain ⟨t, ⟨own, out⟩, dfs⟩ := s
  dsimp only at hd ho h4 h5 r4 r5
  subst ho
  refine fin_panic1 (vs := [.agg [.rs ⟨1, 4, 500, (own.get 4 500).g + 1⟩ 0 0 0, vi 0], vi k]) hd (D140p own oM k x4 x5 r4 r5) ?_ ?_ ?_
  · rw [← set_own _ [oM] 1 5 0 _ rfl, ← set_own _ [oM] 1 4 0 _ rfl, ← set_own _ [oM] 1 4 500 _ rfl]
    simp (maxSteps := 2000000) (disch := omega) only [SA, ofValue, ofCell, bin, intBin, un, idx, Go.Ev.builtin, calleeOf, V.isNilS, V.depthOk, depth1, V.ok1, V.isAgg, V.cells, isConst, Nat.reduceBEq, Nat.reduceEqDiff, ↓reduceIte, Nat.reduceLeDiff, Nat.reduceAdd, Nat.reduceMul, Nat.reduceSub, Nat.reduceLT, Int.reduceAdd, Int.reduceSub, Int.reduceMul, Int.reduceLT, Int.reduceLE, Int.reduceToNat, Int.reduceNeg, reduceIte, reduceCtorEq, SPx, Tryd.results118, resVars, resVar, h4, h5, r4, r5]
  · rw [← set_own _ [oM] 1 5 0 _ rfl, ← set_own _ [oM] 1 4 0 _ rfl, ← set_own _ [oM] 1 4 500 _ rfl]
    simp (maxSteps := 2000000) (disch := omega) only [SA, ofValue, ofCell, bin, intBin, un, idx, Go.Ev.builtin, calleeOf, V.isNilS, V.depthOk, depth1, V.ok1, V.isAgg, V.cells, isConst, Nat.reduceBEq, Nat.reduceEqDiff, ↓reduceIte, Nat.reduceLeDiff, Nat.reduceAdd, Nat.reduceMul, Nat.reduceSub, Nat.reduceLT, Int.reduceAdd, Int.reduceSub, Int.reduceMul, Int.reduceLT, Int.reduceLE, Int.reduceToNat, Int.reduceNeg, reduceIte, reduceCtorEq, SPx, SAx, resOf, X_own, mv_tup, mv2s_cons, mv2s_nil, mv2_int, cut, List.take_zero, List.drop_zero]
  · exact frzR_own (fun r ty off len hm => by
      simp [resOf, leaves, leaves2, V.loose] at hm
      rw [hm.1]; rfl)
theorem M118 (g : FuncId) (cap : List V) (oM : Go.Ev.Rows) (r : Res) (hcap : cap.any V.loose = true) (hco : callOk Tryd.prog g = true) (hsr : scalarRes Tryd.prog g = false) (hg : ∀ own, AnsAt X g cap [own, oM] r)
    (R : Res) (hR : (∃ es sh, r = .ret (.agg [.sl (nats es), vi sh]) ∧ R = .ret (.tup [.agg [.sl (nats es), vi sh], vi 0])) ∨ (∃ k, r = .panic (.ifc 23 (vi k)) ∧ R = .ret (.tup [.agg [.sl [], vi 0], vi k]))) :
    AnsAt X 118 [vi 0, .fn g [] cap] [oM] R := by
  have hne : cap.isEmpty = false := by cases cap with | nil => simp at hcap | cons _ _ => rfl
  refine ⟨rfl, by simp [V.refs, V.loose, hne], fun v hv => ?_, ?_⟩
  · rcases hR with ⟨es, sh, _, rfl⟩ | ⟨k, _, rfl⟩
    · injection hv with hv; subst hv; rfl
    · injection hv with hv; subst hv; rfl
  refine runsAt_of (X := X) (fn := Tryd.f118) Tryd.func118 rfl ⟨by decide +kernel, Nat.le_of_ble_eq_true rfl⟩ ?_
  have hd : (enter [vi 0, V.fn g [] cap] [oM]).dfs = [] := rfl
  have h0 : (enter [vi 0, V.fn g [] cap] [oM]).t.get 0 = vi 0 := rfl
  have h1 : (enter [vi 0, V.fn g [] cap] [oM]).t.get 1 = .fn g [] cap := rfl
  have hm : (enter [vi 0, V.fn g [] cap] [oM]).m = ⟨.nil, [oM]⟩ := rfl
  generalize enter [vi 0, V.fn g [] cap] [oM] = s at *
  repeat (first
    | with_reducible first | refine W_seq ?_ | refine W_skip ?_ | refine W_label ?_ | refine W_ret ?_ | refine W_exit ?_ | refine W_block ?_ | refine thenI ?_ | refine thenRet ?_ | refine thenExit ?_ | refine blockRet ?_ | refine blockI ?_ | refine blockExit ?_ | refine blockExitNe rfl ?_
    | (with_reducible refine W_region_k ?_
       intro K hK
       simp (maxSteps := 2000000) (disch := omega) only [SA, ofValue, ofCell, bin, intBin, un, idx, Go.Ev.builtin, calleeOf, V.isNilS, V.depthOk, depth1, V.ok1, V.isAgg, V.cells, isConst, Nat.reduceBEq, Nat.reduceEqDiff, ↓reduceIte, Nat.reduceLeDiff, Nat.reduceAdd, Nat.reduceMul, Nat.reduceSub, Nat.reduceLT, Int.reduceAdd, Int.reduceSub, Int.reduceMul, Int.reduceLT, Int.reduceLE, Int.reduceToNat, Int.reduceNeg, reduceIte, reduceCtorEq, SPx, SAx, h0, h1, hm]
       refine hK _ _ ?_
       clear hK K)
    | (refine W_draw_k (by decide +kernel) ?_
       intro K hK
       simp (maxSteps := 2000000) (disch := omega) only [SA, ofValue, ofCell, bin, intBin, un, idx, Go.Ev.builtin, calleeOf, V.isNilS, V.depthOk, depth1, V.ok1, V.isAgg, V.cells, isConst, Nat.reduceBEq, Nat.reduceEqDiff, ↓reduceIte, Nat.reduceLeDiff, Nat.reduceAdd, Nat.reduceMul, Nat.reduceSub, Nat.reduceLT, Int.reduceAdd, Int.reduceSub, Int.reduceMul, Int.reduceLT, Int.reduceLE, Int.reduceToNat, Int.reduceNeg, reduceIte, reduceCtorEq, SD, SPx, SAx, h0, h1, hm]
       repeat (refine ⟨by decide +kernel, ?_⟩)
       refine hK _ _ ?_
       clear hK K))
  with_reducible refine W_cond2 (by simp only [SO, ofValue, ofCell, Nat.reduceBEq, Nat.reduceEqDiff, ↓reduceIte]; rfl) (fun h => ?_) (fun h => ?_)
  · simp at h
  repeat (first
    | with_reducible first | refine W_seq ?_ | refine W_skip ?_ | refine W_label ?_ | refine W_ret ?_ | refine W_exit ?_ | refine W_block ?_ | refine thenI ?_ | refine thenRet ?_ | refine thenExit ?_ | refine blockRet ?_ | refine blockI ?_ | refine blockExit ?_ | refine blockExitNe rfl ?_
    | (with_reducible refine W_region_k ?_
       intro K hK
       simp (maxSteps := 2000000) (disch := omega) only [SA, ofValue, ofCell, bin, intBin, un, idx, Go.Ev.builtin, calleeOf, V.isNilS, V.depthOk, depth1, V.ok1, V.isAgg, V.cells, isConst, Nat.reduceBEq, Nat.reduceEqDiff, ↓reduceIte, Nat.reduceLeDiff, Nat.reduceAdd, Nat.reduceMul, Nat.reduceSub, Nat.reduceLT, Int.reduceAdd, Int.reduceSub, Int.reduceMul, Int.reduceLT, Int.reduceLE, Int.reduceToNat, Int.reduceNeg, reduceIte, reduceCtorEq, SPx, SAx, h0, h1, hm]
       refine hK _ _ ?_
       clear hK K)
    | (refine W_draw_k (by decide +kernel) ?_
       intro K hK
       simp (maxSteps := 2000000) (disch := omega) only [SA, ofValue, ofCell, bin, intBin, un, idx, Go.Ev.builtin, calleeOf, V.isNilS, V.depthOk, depth1, V.ok1, V.isAgg, V.cells, isConst, Nat.reduceBEq, Nat.reduceEqDiff, ↓reduceIte, Nat.reduceLeDiff, Nat.reduceAdd, Nat.reduceMul, Nat.reduceSub, Nat.reduceLT, Int.reduceAdd, Int.reduceSub, Int.reduceMul, Int.reduceLT, Int.reduceLE, Int.reduceToNat, Int.reduceNeg, reduceIte, reduceCtorEq, SD, SPx, SAx, h0, h1, hm]
       repeat (refine ⟨by decide +kernel, ?_⟩)
       refine hK _ _ ?_
       clear hK K))
  have key : ∀ (m : Mem) (dst : Nat) (K KP : V → Mem → Prop), m.out = [oM] → CallQ X g cap m dst K KP = (match r with | .ret v => K v m | .panic v => KP v m) := by
    intro m dst K KP hmo
    have hh := hg m.own
    rw [← hmo] at hh
    cases r with
    | ret v => exact propext hh.iff
    | panic v => exact propext hh.panics
  with_reducible refine W_region_k ?_
  intro K hK
  simp (maxSteps := 2000000) (disch := omega) only [SA, ofValue, ofCell, bin, intBin, un, idx, Go.Ev.builtin, calleeOf, V.isNilS, V.depthOk, depth1, V.ok1, V.isAgg, V.cells, isConst, Nat.reduceBEq, Nat.reduceEqDiff, ↓reduceIte, Nat.reduceLeDiff, Nat.reduceAdd, Nat.reduceMul, Nat.reduceSub, Nat.reduceLT, Int.reduceAdd, Int.reduceSub, Int.reduceMul, Int.reduceLT, Int.reduceLE, Int.reduceToNat, Int.reduceNeg, reduceIte, reduceCtorEq, SPx, SAx, h0, h1, hm, hd, hco, hsr]
  rw [key _ _ _ _ rfl]
  rcases hR with ⟨es, sh, rfl, rfl⟩ | ⟨k, rfl, rfl⟩
  · simp (maxSteps := 2000000) (disch := omega) only [SA, ofValue, ofCell, bin, intBin, un, idx, Go.Ev.builtin, calleeOf, V.isNilS, V.depthOk, depth1, V.ok1, V.isAgg, V.cells, isConst, Nat.reduceBEq, Nat.reduceEqDiff, ↓reduceIte, Nat.reduceLeDiff, Nat.reduceAdd, Nat.reduceMul, Nat.reduceSub, Nat.reduceLT, Int.reduceAdd, Int.reduceSub, Int.reduceMul, Int.reduceLT, Int.reduceLE, Int.reduceToNat, Int.reduceNeg, reduceIte, reduceCtorEq, SPx, SAx, SSx, appendTo, elemsOf]
    refine hK _ _ ?_
    clear hK K
    repeat (first
      | with_reducible first | refine W_seq ?_ | refine W_skip ?_ | refine W_label ?_ | refine W_ret ?_ | refine W_exit ?_ | refine W_block ?_ | refine thenI ?_ | refine thenRet ?_ | refine thenExit ?_ | refine blockRet ?_ | refine blockI ?_ | refine blockExit ?_ | refine blockExitNe rfl ?_
      | (with_reducible refine W_region_k ?_
         intro K hK
         simp (maxSteps := 2000000) (disch := omega) only [SA, ofValue, ofCell, bin, intBin, un, idx, Go.Ev.builtin, calleeOf, V.isNilS, V.depthOk, depth1, V.ok1, V.isAgg, V.cells, isConst, Nat.reduceBEq, Nat.reduceEqDiff, ↓reduceIte, Nat.reduceLeDiff, Nat.reduceAdd, Nat.reduceMul, Nat.reduceSub, Nat.reduceLT, Int.reduceAdd, Int.reduceSub, Int.reduceMul, Int.reduceLT, Int.reduceLE, Int.reduceToNat, Int.reduceNeg, reduceIte, reduceCtorEq, SPx]
         refine hK _ _ ?_
         clear hK K)
      | (refine W_draw_k (by decide +kernel) ?_
         intro K hK
         simp (maxSteps := 2000000) (disch := omega) only [SA, ofValue, ofCell, bin, intBin, un, idx, Go.Ev.builtin, calleeOf, V.isNilS, V.depthOk, depth1, V.ok1, V.isAgg, V.cells, isConst, Nat.reduceBEq, Nat.reduceEqDiff, ↓reduceIte, Nat.reduceLeDiff, Nat.reduceAdd, Nat.reduceMul, Nat.reduceSub, Nat.reduceLT, Int.reduceAdd, Int.reduceSub, Int.reduceMul, Int.reduceLT, Int.reduceLE, Int.reduceToNat, Int.reduceNeg, reduceIte, reduceCtorEq, SD, SPx]
         repeat (refine ⟨by decide +kernel, ?_⟩)
         refine hK _ _ ?_
         clear hK K))
    refine fin118 (es := es) (sh := sh) (k := 0) ?_ ?_ ?_ ?_ ?_ ?_
    all_goals (try simp (maxSteps := 2000000) (disch := omega) only [SO, ofValue, ofCell, Nat.reduceBEq, Nat.reduceEqDiff, ↓reduceIte, and_self, and_true, true_and, Mem.newRef_eq, Mem.gen_nil, Mem.gen_new, Mem.gen_set, Mem.row_new, Mem.row_setW, Mem.new_out, Mem.set_out, List.length_nil, List.length_cons, Nat.zero_le, Nat.le_refl, Nat.reduceLeDiff, Nat.reduceAdd, and_self, and_true, true_and, Nat.zero_add, hd])
    all_goals first | rfl | simp [Mem.new, Mem.set]
  · simp (maxSteps := 2000000) (disch := omega) only [SA, ofValue, ofCell, bin, intBin, un, idx, Go.Ev.builtin, calleeOf, V.isNilS, V.depthOk, depth1, V.ok1, V.isAgg, V.cells, isConst, Nat.reduceBEq, Nat.reduceEqDiff, ↓reduceIte, Nat.reduceLeDiff, Nat.reduceAdd, Nat.reduceMul, Nat.reduceSub, Nat.reduceLT, Int.reduceAdd, Int.reduceSub, Int.reduceMul, Int.reduceLT, Int.reduceLE, Int.reduceToNat, Int.reduceNeg, reduceIte, reduceCtorEq, SPx, SAx, SSx, appendTo, elemsOf]
    refine hK _ _ ?_
    clear hK K
    repeat (first
      | with_reducible first | refine W_seq ?_ | refine W_skip ?_ | refine W_label ?_ | refine W_ret ?_ | refine W_exit ?_ | refine W_block ?_ | refine thenI ?_ | refine thenRet ?_ | refine thenExit ?_ | refine blockRet ?_ | refine blockI ?_ | refine blockExit ?_ | refine blockExitNe rfl ?_
      | (with_reducible refine W_region_k ?_
         intro K hK
         simp (maxSteps := 2000000) (disch := omega) only [SA, ofValue, ofCell, bin, intBin, un, idx, Go.Ev.builtin, calleeOf, V.isNilS, V.depthOk, depth1, V.ok1, V.isAgg, V.cells, isConst, Nat.reduceBEq, Nat.reduceEqDiff, ↓reduceIte, Nat.reduceLeDiff, Nat.reduceAdd, Nat.reduceMul, Nat.reduceSub, Nat.reduceLT, Int.reduceAdd, Int.reduceSub, Int.reduceMul, Int.reduceLT, Int.reduceLE, Int.reduceToNat, Int.reduceNeg, reduceIte, reduceCtorEq, SPx]
         refine hK _ _ ?_
         clear hK K)
      | (refine W_draw_k (by decide +kernel) ?_
         intro K hK
         simp (maxSteps := 2000000) (disch := omega) only [SA, ofValue, ofCell, bin, intBin, un, idx, Go.Ev.builtin, calleeOf, V.isNilS, V.depthOk, depth1, V.ok1, V.isAgg, V.cells, isConst, Nat.reduceBEq, Nat.reduceEqDiff, ↓reduceIte, Nat.reduceLeDiff, Nat.reduceAdd, Nat.reduceMul, Nat.reduceSub, Nat.reduceLT, Int.reduceAdd, Int.reduceSub, Int.reduceMul, Int.reduceLT, Int.reduceLE, Int.reduceToNat, Int.reduceNeg, reduceIte, reduceCtorEq, SD, SPx]
         repeat (refine ⟨by decide +kernel, ?_⟩)
         refine hK _ _ ?_
         clear hK K))
    refine fin118p (k := k) (x4 := .agg [.rs ⟨1, 4, 1, 1⟩ 0 0 0, vi 0]) (x5 := vi 0) ?_ ?_ ?_ ?_ ?_ ?_
    all_goals (try simp (maxSteps := 2000000) (disch := omega) only [SO, ofValue, ofCell, Nat.reduceBEq, Nat.reduceEqDiff, ↓reduceIte, and_self, and_true, true_and, Mem.newRef_eq, Mem.gen_nil, Mem.gen_new, Mem.gen_set, Mem.row_new, Mem.row_setW, Mem.new_out, Mem.set_out, List.length_nil, List.length_cons, Nat.zero_le, Nat.le_refl, Nat.reduceLeDiff, Nat.reduceAdd, and_self, and_true, true_and, Nat.zero_add, hd])
    all_goals first | rfl | simp [Mem.new, Mem.set]
theorem M118e (e : Int) (he : e ≠ 0) (g : FuncId) (cap : List V) (oM : Go.Ev.Rows) (hcap : cap.any V.loose = true) : AnsAt X 118 [vi e, .fn g [] cap] [oM] (.ret (.tup [.agg [.sl [], vi 0], vi e])) := by
  have hne : cap.isEmpty = false := by cases cap with | nil => simp at hcap | cons _ _ => rfl
  refine ⟨rfl, by simp [V.refs, V.loose, hne], fun v hv => ?_, ?_⟩
  · injection hv with hv; subst hv; rfl
  refine runsAt_of (X := X) (fn := Tryd.f118) Tryd.func118 rfl ⟨by decide +kernel, Nat.le_of_ble_eq_true rfl⟩ ?_
  have hd : (enter [vi e, V.fn g [] cap] [oM]).dfs = [] := rfl
  have h0 : (enter [vi e, V.fn g [] cap] [oM]).t.get 0 = vi e := rfl
  have h1 : (enter [vi e, V.fn g [] cap] [oM]).t.get 1 = .fn g [] cap := rfl
  have hm : (enter [vi e, V.fn g [] cap] [oM]).m = ⟨.nil, [oM]⟩ := rfl
  generalize enter [vi e, V.fn g [] cap] [oM] = s at *
  repeat (first
    | with_reducible first | refine W_seq ?_ | refine W_skip ?_ | refine W_label ?_ | refine W_ret ?_ | refine W_exit ?_ | refine W_block ?_ | refine thenI ?_ | refine thenRet ?_ | refine thenExit ?_ | refine blockRet ?_ | refine blockI ?_ | refine blockExit ?_ | refine blockExitNe rfl ?_
    | (with_reducible refine W_region_k ?_
       intro K hK
       simp (maxSteps := 2000000) (disch := omega) only [SA, ofValue, ofCell, bin, intBin, un, idx, Go.Ev.builtin, calleeOf, V.isNilS, V.depthOk, depth1, V.ok1, V.isAgg, V.cells, isConst, Nat.reduceBEq, Nat.reduceEqDiff, ↓reduceIte, Nat.reduceLeDiff, Nat.reduceAdd, Nat.reduceMul, Nat.reduceSub, Nat.reduceLT, Int.reduceAdd, Int.reduceSub, Int.reduceMul, Int.reduceLT, Int.reduceLE, Int.reduceToNat, Int.reduceNeg, reduceIte, reduceCtorEq, SPx, SAx, h0, h1, hm]
       refine hK _ _ ?_
       clear hK K)
    | (refine W_draw_k (by decide +kernel) ?_
       intro K hK
       simp (maxSteps := 2000000) (disch := omega) only [SA, ofValue, ofCell, bin, intBin, un, idx, Go.Ev.builtin, calleeOf, V.isNilS, V.depthOk, depth1, V.ok1, V.isAgg, V.cells, isConst, Nat.reduceBEq, Nat.reduceEqDiff, ↓reduceIte, Nat.reduceLeDiff, Nat.reduceAdd, Nat.reduceMul, Nat.reduceSub, Nat.reduceLT, Int.reduceAdd, Int.reduceSub, Int.reduceMul, Int.reduceLT, Int.reduceLE, Int.reduceToNat, Int.reduceNeg, reduceIte, reduceCtorEq, SD, SPx, SAx, h0, h1, hm]
       repeat (refine ⟨by decide +kernel, ?_⟩)
       refine hK _ _ ?_
       clear hK K))
  with_reducible refine W_cond2 (by simp only [SO, ofValue, ofCell, Nat.reduceBEq, Nat.reduceEqDiff, ↓reduceIte]; rfl) (fun h => ?_) (fun h => ?_)
  · repeat (first
      | with_reducible first | refine W_seq ?_ | refine W_skip ?_ | refine W_label ?_ | refine W_ret ?_ | refine W_exit ?_ | refine W_block ?_ | refine thenI ?_ | refine thenRet ?_ | refine thenExit ?_ | refine blockRet ?_ | refine blockI ?_ | refine blockExit ?_ | refine blockExitNe rfl ?_
      | (with_reducible refine W_region_k ?_
         intro K hK
         simp (maxSteps := 2000000) (disch := omega) only [SA, ofValue, ofCell, bin, intBin, un, idx, Go.Ev.builtin, calleeOf, V.isNilS, V.depthOk, depth1, V.ok1, V.isAgg, V.cells, isConst, Nat.reduceBEq, Nat.reduceEqDiff, ↓reduceIte, Nat.reduceLeDiff, Nat.reduceAdd, Nat.reduceMul, Nat.reduceSub, Nat.reduceLT, Int.reduceAdd, Int.reduceSub, Int.reduceMul, Int.reduceLT, Int.reduceLE, Int.reduceToNat, Int.reduceNeg, reduceIte, reduceCtorEq, SPx, SAx, h0, h1, hm]
         refine hK _ _ ?_
         clear hK K)
      | (refine W_draw_k (by decide +kernel) ?_
         intro K hK
         simp (maxSteps := 2000000) (disch := omega) only [SA, ofValue, ofCell, bin, intBin, un, idx, Go.Ev.builtin, calleeOf, V.isNilS, V.depthOk, depth1, V.ok1, V.isAgg, V.cells, isConst, Nat.reduceBEq, Nat.reduceEqDiff, ↓reduceIte, Nat.reduceLeDiff, Nat.reduceAdd, Nat.reduceMul, Nat.reduceSub, Nat.reduceLT, Int.reduceAdd, Int.reduceSub, Int.reduceMul, Int.reduceLT, Int.reduceLE, Int.reduceToNat, Int.reduceNeg, reduceIte, reduceCtorEq, SD, SPx, SAx, h0, h1, hm]
         repeat (refine ⟨by decide +kernel, ?_⟩)
         refine hK _ _ ?_
         clear hK K))
    refine fin_ret (X := X) (fn := Tryd.f118) (vs := [.agg [.rs ⟨1, 4, 1, 1⟩ 0 0 0, vi 0], vi e]) hd ?_ ?_ ?_
    · simp (maxSteps := 2000000) (disch := omega) only [SA, ofValue, ofCell, bin, intBin, un, idx, Go.Ev.builtin, calleeOf, V.isNilS, V.depthOk, depth1, V.ok1, V.isAgg, V.cells, isConst, Nat.reduceBEq, Nat.reduceEqDiff, ↓reduceIte, Nat.reduceLeDiff, Nat.reduceAdd, Nat.reduceMul, Nat.reduceSub, Nat.reduceLT, Int.reduceAdd, Int.reduceSub, Int.reduceMul, Int.reduceLT, Int.reduceLE, Int.reduceToNat, Int.reduceNeg, reduceIte, reduceCtorEq, SPx, SAx, Tryd.results118, resVars, resVar]
    · simp (maxSteps := 2000000) (disch := omega) only [SA, ofValue, ofCell, bin, intBin, un, idx, Go.Ev.builtin, calleeOf, V.isNilS, V.depthOk, depth1, V.ok1, V.isAgg, V.cells, isConst, Nat.reduceBEq, Nat.reduceEqDiff, ↓reduceIte, Nat.reduceLeDiff, Nat.reduceAdd, Nat.reduceMul, Nat.reduceSub, Nat.reduceLT, Int.reduceAdd, Int.reduceSub, Int.reduceMul, Int.reduceLT, Int.reduceLE, Int.reduceToNat, Int.reduceNeg, reduceIte, reduceCtorEq, SPx, SAx, resOf, X_own, mv_tup, mv2s_cons, mv2s_nil, mv2_int, cut, List.take_zero, List.drop_zero]
    · refine (frzR_own (fun r ty off len hm => ?_)).trans ?_
      · simp [resOf, leaves, leaves2, V.loose] at hm
        rw [hm.1]; rfl
      · rfl
  · exact absurd (by simpa using h) he
end Go.Proofs.YtpocekfifokndaaDoor
namespace Go.Proofs.YtpocekfifokndaaDoor
open Go Go.Ev Go.Pl
set_option maxRecDepth 100000
set_option maxHeartbeats 4000000
theorem fr_bounds {N D i j k : Nat} (hN : N ≤ 1099511627776) (hD : D ≤ 1048576) (h : D = 2 ^ i * 3 ^ j * 5 ^ k) : i < 21 ∧ j < 13 ∧ k < 9 ∧ N * invW i j k < 60 ^ 16 := by
  have p2 : 0 < 2 ^ i := Nat.pow_pos (by decide)
  have p3 : 0 < 3 ^ j := Nat.pow_pos (by decide)
  have p5 : 0 < 5 ^ k := Nat.pow_pos (by decide)
  have d2 : 2 ^ i ≤ D := by rw [h, Nat.mul_assoc]; exact Nat.le_mul_of_pos_right _ (Nat.mul_pos p3 p5)
  have d3 : 3 ^ j ≤ D := by rw [h, Nat.mul_comm (2 ^ i), Nat.mul_assoc]; exact Nat.le_mul_of_pos_right _ (Nat.mul_pos p2 p5)
  have d5 : 5 ^ k ≤ D := by rw [h]; exact Nat.le_mul_of_pos_left _ (Nat.mul_pos p2 p3)
  have bi : i < 21 := pow_lt_of (b := 2) (N := D) (by decide) d2 (Nat.lt_of_le_of_lt hD (by decide))
  have bj : j < 13 := pow_lt_of (b := 3) (N := D) (by decide) d3 (Nat.lt_of_le_of_lt hD (by decide))
  have bk : k < 9 := pow_lt_of (b := 5) (N := D) (by decide) d5 (Nat.lt_of_le_of_lt hD (by decide))
  refine ⟨bi, bj, bk, ?_⟩
  clear d2 d3 d5 p2 p3 p5
  have hfin : ∀ i, i < 21 → ∀ j, j < 13 → ∀ k, k < 9 → 2 ^ i * 3 ^ j * 5 ^ k ≤ 1048576 → 1099511627776 * invW i j k < 60 ^ 16 := by decide +kernel
  exact Nat.lt_of_le_of_lt (Nat.mul_le_mul_right _ hN) (hfin i bi j bj k bk (h ▸ hD))
theorem placeRes_small {M : Nat} (hp : 0 < M) (hM : M < 60 ^ 16) : placeRes (M * 60 ^ 72) = .ret (.agg [.sl (nats (digB M)), vi (vz M)]) := by
  have h := placeRes_inv hp (Nat.le_trans (Nat.le_of_lt hM) (Nat.pow_le_pow_right (by decide) (by decide)))
  have h1 := canL_length_le.2 hM
  have h2 := canL_len_core M
  rw [if_neg (by omega)] at h
  exact h
theorem P124c (N D i j k W M L K : Nat) (q1 : Ans X 90 [vn i, vn j, vn k] (.ret (.tup [wv W, vn K]))) (q2 : Ans X 115 [wv W, vn N] (.ret (wv M))) (q3 : Ans X 81 [wv M] (.ret (.agg [.sl (nats (digB L)), vi (vz L)])))
    (hwr : V.int .i64 (wr .i64 ((vz L : Int) - (K : Int))) = vi ((vz L : Int) - K)) (o1 oM : Go.Ev.Rows)
    (hA : (⟨oM, []⟩ : Mem).row ⟨0, 4, 0, 1⟩ = some ⟨1, 22, false, false, [.sl (nats [i, j, k])]⟩) (hB : (⟨oM, []⟩ : Mem).row ⟨0, 1, 0, 1⟩ = some ⟨1, 76, false, false, [.agg [vn N, vn D]]⟩) :
    AnsAt X 124 [.ptr ⟨0, 4, 0, 1⟩ 0 0, .ptr ⟨0, 1, 0, 1⟩ 0 0] [o1, oM] (.ret (.agg [.sl (nats (digB L)), vi ((vz L : Int) - K)])) := by
  refine ⟨rfl, rfl, fun v hv => ?_, ?_⟩
  · injection hv with hv; subst hv; rfl
  refine runsAt_of (X := X) (fn := Tryd.f124) Tryd.func124 rfl ⟨by decide +kernel, Nat.le_of_ble_eq_true rfl⟩ ?_
  have hd : (enter [V.ptr ⟨0, 4, 0, 1⟩ 0 0, V.ptr ⟨0, 1, 0, 1⟩ 0 0] [o1, oM]).dfs = [] := rfl
  have h0 : (enter [V.ptr ⟨0, 4, 0, 1⟩ 0 0, V.ptr ⟨0, 1, 0, 1⟩ 0 0] [o1, oM]).t.get 0 = .ptr ⟨0, 4, 0, 1⟩ 0 0 := rfl
  have h1 : (enter [V.ptr ⟨0, 4, 0, 1⟩ 0 0, V.ptr ⟨0, 1, 0, 1⟩ 0 0] [o1, oM]).t.get 1 = .ptr ⟨0, 1, 0, 1⟩ 0 0 := rfl
  have hm : (enter [V.ptr ⟨0, 4, 0, 1⟩ 0 0, V.ptr ⟨0, 1, 0, 1⟩ 0 0] [o1, oM]).m = ⟨.nil, [o1, oM]⟩ := rfl
  generalize enter [V.ptr ⟨0, 4, 0, 1⟩ 0 0, V.ptr ⟨0, 1, 0, 1⟩ 0 0] [o1, oM] = s at *
  have hA' : (⟨.nil, [o1, oM]⟩ : Mem).row ⟨0, 4, 0, 1⟩ = some ⟨1, 22, false, false, [.sl (nats [i, j, k])]⟩ := by rw [row_outer _ _ _ _ (by simp), row_outer _ _ _ _ (by simp), hA]
  have hB' : (⟨.nil, [o1, oM]⟩ : Mem).row ⟨0, 1, 0, 1⟩ = some ⟨1, 76, false, false, [.agg [vn N, vn D]]⟩ := by rw [row_outer _ _ _ _ (by simp), row_outer _ _ _ _ (by simp), hB]
  have n0 : (nats [i, j, k])[0]? = some (vn i) := rfl
  have n1 : (nats [i, j, k])[1]? = some (vn j) := rfl
  have n2 : (nats [i, j, k])[2]? = some (vn k) := rfl
  repeat (first
    | with_reducible first | refine W_seq ?_ | refine W_skip ?_ | refine W_label ?_ | refine W_ret ?_ | refine W_exit ?_ | refine W_block ?_ | refine thenI ?_ | refine thenRet ?_ | refine thenExit ?_ | refine blockRet ?_ | refine blockI ?_ | refine blockExit ?_ | refine blockExitNe rfl ?_
    | (with_reducible refine W_region_k ?_
       intro K hK
       simp (maxSteps := 2000000) (disch := omega) only [SA, ofValue, ofCell, bin, intBin, un, idx, Go.Ev.builtin, calleeOf, V.isNilS, V.depthOk, depth1, V.ok1, V.isAgg, V.cells, isConst, Nat.reduceBEq, Nat.reduceEqDiff, ↓reduceIte, Nat.reduceLeDiff, Nat.reduceAdd, Nat.reduceMul, Nat.reduceSub, Nat.reduceLT, Int.reduceAdd, Int.reduceSub, Int.reduceMul, Int.reduceLT, Int.reduceLE, Int.reduceToNat, Int.reduceNeg, reduceIte, reduceCtorEq, SPx, SAx, SSx, appendTo, elemsOf, SWx, h0, h1, hm, hA', hB', n0, n1, n2, co90, co81, co115, sr90, sr81, sr115, q1.iff, q2.iff, q3.iff, hwr]
       refine hK _ _ ?_
       clear hK K)
    | (refine W_draw_k (by decide +kernel) ?_
       intro K hK
       simp (maxSteps := 2000000) (disch := omega) only [SA, ofValue, ofCell, bin, intBin, un, idx, Go.Ev.builtin, calleeOf, V.isNilS, V.depthOk, depth1, V.ok1, V.isAgg, V.cells, isConst, Nat.reduceBEq, Nat.reduceEqDiff, ↓reduceIte, Nat.reduceLeDiff, Nat.reduceAdd, Nat.reduceMul, Nat.reduceSub, Nat.reduceLT, Int.reduceAdd, Int.reduceSub, Int.reduceMul, Int.reduceLT, Int.reduceLE, Int.reduceToNat, Int.reduceNeg, reduceIte, reduceCtorEq, SD, SPx, SAx, SSx, appendTo, elemsOf, SWx, h0, h1, hm, hA', hB', n0, n1, n2, co90, co81, co115, sr90, sr81, sr115, q1.iff, q2.iff, q3.iff, hwr]
       repeat (refine ⟨by decide +kernel, ?_⟩)
       refine hK _ _ ?_
       clear hK K))
  refine fin_ret (X := X) (fn := Tryd.f124) (vs := [.agg [.sl (nats (digB L)), vi ((vz L : Int) - K)]]) hd ?_ rfl rfl
  simp (maxSteps := 2000000) (disch := omega) only [SA, ofValue, ofCell, bin, intBin, un, idx, Go.Ev.builtin, calleeOf, V.isNilS, V.depthOk, depth1, V.ok1, V.isAgg, V.cells, isConst, Nat.reduceBEq, Nat.reduceEqDiff, ↓reduceIte, Nat.reduceLeDiff, Nat.reduceAdd, Nat.reduceMul, Nat.reduceSub, Nat.reduceLT, Int.reduceAdd, Int.reduceSub, Int.reduceMul, Int.reduceLT, Int.reduceLE, Int.reduceToNat, Int.reduceNeg, reduceIte, reduceCtorEq, SPx, SAx, Tryd.results124, resVars, resVar]
theorem P124 (N D i j k : Nat) (hN0 : 0 < N) (hN : N ≤ 1099511627776) (hi : i < 21) (hj : j < 13) (hk : k < 9) (hM : N * invW i j k < 60 ^ 16) (o1 oM : Go.Ev.Rows)
    (hA : (⟨oM, []⟩ : Mem).row ⟨0, 4, 0, 1⟩ = some ⟨1, 22, false, false, [.sl (nats [i, j, k])]⟩) (hB : (⟨oM, []⟩ : Mem).row ⟨0, 1, 0, 1⟩ = some ⟨1, 76, false, false, [.agg [vn N, vn D]]⟩) :
    AnsAt X 124 [.ptr ⟨0, 4, 0, 1⟩ 0 0, .ptr ⟨0, 1, 0, 1⟩ 0 0] [o1, oM] (.ret (.agg [.sl (nats (digB (N * invW i j k))), vi ((vz (N * invW i j k) : Int) - invK i j k)])) := by
  have hW : invW i j k < 60 ^ 16 := Nat.lt_of_le_of_lt (Nat.le_mul_of_pos_left _ hN0) hM
  have q1 := P90 i j k (by omega) (by omega) (by omega) (Nat.lt_trans hW (by decide))
  have hb1 : invW i j k * 60 ^ 72 < 60 ^ 168 := Nat.lt_of_lt_of_le (Nat.mul_lt_mul_of_pos_right hW (by decide)) (by decide)
  have hb2 : N * invW i j k * 60 ^ 72 < 60 ^ 168 := Nat.lt_of_lt_of_le (Nat.mul_lt_mul_of_pos_right hM (by decide)) (by decide)
  have hcm : invW i j k * 60 ^ 72 * N = N * invW i j k * 60 ^ 72 := by rw [Nat.mul_right_comm, Nat.mul_comm N]
  have q2 := P115 (invW i j k * 60 ^ 72) N hb1 (by omega)
  rw [hcm, if_pos hb2] at q2
  have q3 := P81 (N * invW i j k * 60 ^ 72) hb2
  rw [placeRes_small (Nat.mul_pos hN0 (invW_pos i j k)) hM] at q3
  have hv : vz (N * invW i j k) < 16 := vz_lt (Nat.mul_pos hN0 (invW_pos i j k)) hM
  have hKb : invK i j k < 21 := by unfold invK; omega
  have hwr : V.int .i64 (wr .i64 ((vz (N * invW i j k) : Int) - (invK i j k : Int))) = vi ((vz (N * invW i j k) : Int) - invK i j k) := by rw [wr_i64 (by omega) (by omega)]
  exact P124c N D i j k _ _ _ _ q1 q2 q3 hwr o1 oM hA hB
def frS (N D : Int) : List Nat × Int × Int :=
  if isRat N D = false ∨ N < 0 then ([], 0, 2) else
  if (splitF [2, 3, 5] D.toNat).2 ≠ 1 then ([], 0, 31) else
  if N = 0 then ([], 0, 0) else
  (digB (N.toNat * invW (mult 2 D.toNat) (mult 3 (rem 2 D.toNat)) (mult 5 (rem 3 (rem 2 D.toNat)))),
    (vz (N.toNat * invW (mult 2 D.toNat) (mult 3 (rem 2 D.toNat)) (mult 5 (rem 3 (rem 2 D.toNat)))) : Int) - invK (mult 2 D.toNat) (mult 3 (rem 2 D.toNat)) (mult 5 (rem 3 (rem 2 D.toNat))), 0)
theorem split_eq {N : Nat} (h0 : 0 < N) (hs : (splitF [2, 3, 5] N).2 = 1) : N = 2 ^ mult 2 N * 3 ^ mult 3 (rem 2 N) * 5 ^ mult 5 (rem 3 (rem 2 N)) := by
  obtain ⟨e2, p2, _⟩ := rem_spec (p := 2) (by decide) h0
  obtain ⟨e3, p3, _⟩ := rem_spec (p := 3) (by decide) p2
  obtain ⟨e5, p5, _⟩ := rem_spec (p := 5) (by decide) p3
  simp only [splitF] at hs
  rw [hs, Nat.one_mul] at e5
  rw [← Nat.mul_comm (5 ^ _), ← e5, Nat.mul_comm (2 ^ _), ← Nat.mul_assoc, ← e3]
  exact e2
theorem P63 (N D : Int) : Ans X 63 [.agg [vi N, vi D]] (.ret (.tup [.agg [.sl (nats (frS N D).1), vi (frS N D).2.1], vi (frS N D).2.2])) := by
  refine call_of_X (fn := Tryd.f63) 1 Tryd.func63 rfl (by decide +kernel) rfl ?_ ?_ ?_ ?_
  · rfl
  · intro h; exact absurd h (by rw [sr63]; decide)
  · intro v hv; injection hv with hv; subst hv; rfl
  intro s hs hd ho
  have hm : s.m = ⟨.nil, []⟩ := by subst hs; rfl
  have h0 : s.t.get 0 = .agg [vi N, vi D] := by subst hs; rfl
  clear hs
  by_cases c1 : isRat N D = false
  · repeat (first
      | with_reducible first | refine W_seq ?_ | refine W_skip ?_ | refine W_label ?_ | refine W_ret ?_ | refine W_exit ?_ | refine W_block ?_ | refine thenI ?_ | refine thenRet ?_ | refine thenExit ?_ | refine blockRet ?_ | refine blockI ?_ | refine blockExit ?_ | refine blockExitNe rfl ?_
      | (with_reducible refine W_region_k ?_
         intro K hK
         simp (maxSteps := 2000000) (disch := omega) only [SA, ofValue, ofCell, bin, intBin, un, idx, Go.Ev.builtin, calleeOf, V.isNilS, V.depthOk, depth1, V.ok1, V.isAgg, V.cells, isConst, Nat.reduceBEq, Nat.reduceEqDiff, ↓reduceIte, Nat.reduceLeDiff, Nat.reduceAdd, Nat.reduceMul, Nat.reduceSub, Nat.reduceLT, Int.reduceAdd, Int.reduceSub, Int.reduceMul, Int.reduceLT, Int.reduceLE, Int.reduceToNat, Int.reduceNeg, reduceIte, reduceCtorEq, SPx, SAx, h0, hm, co123, sr123, (P123 N D).iff, c1]
         refine hK _ _ ?_
         clear hK K)
      | (refine W_draw_k (by decide +kernel) ?_
         intro K hK
         simp (maxSteps := 2000000) (disch := omega) only [SA, ofValue, ofCell, bin, intBin, un, idx, Go.Ev.builtin, calleeOf, V.isNilS, V.depthOk, depth1, V.ok1, V.isAgg, V.cells, isConst, Nat.reduceBEq, Nat.reduceEqDiff, ↓reduceIte, Nat.reduceLeDiff, Nat.reduceAdd, Nat.reduceMul, Nat.reduceSub, Nat.reduceLT, Int.reduceAdd, Int.reduceSub, Int.reduceMul, Int.reduceLT, Int.reduceLE, Int.reduceToNat, Int.reduceNeg, reduceIte, reduceCtorEq, SD, SPx, SAx, h0, hm, co123, sr123, (P123 N D).iff, c1]
         repeat (refine ⟨by decide +kernel, ?_⟩)
         refine hK _ _ ?_
         clear hK K))
    with_reducible refine W_cond2 (by simp only [SO, ofValue, ofCell, Nat.reduceBEq, Nat.reduceEqDiff, ↓reduceIte]; rfl) (fun h => ?_) (fun h => ?_)
    · repeat (first
        | with_reducible first | refine W_seq ?_ | refine W_skip ?_ | refine W_label ?_ | refine W_ret ?_ | refine W_exit ?_ | refine W_block ?_ | refine thenI ?_ | refine thenRet ?_ | refine thenExit ?_ | refine blockRet ?_ | refine blockI ?_ | refine blockExit ?_ | refine blockExitNe rfl ?_
        | (with_reducible refine W_region_k ?_
           intro K hK
           simp (maxSteps := 2000000) (disch := omega) only [SA, ofValue, ofCell, bin, intBin, un, idx, Go.Ev.builtin, calleeOf, V.isNilS, V.depthOk, depth1, V.ok1, V.isAgg, V.cells, isConst, Nat.reduceBEq, Nat.reduceEqDiff, ↓reduceIte, Nat.reduceLeDiff, Nat.reduceAdd, Nat.reduceMul, Nat.reduceSub, Nat.reduceLT, Int.reduceAdd, Int.reduceSub, Int.reduceMul, Int.reduceLT, Int.reduceLE, Int.reduceToNat, Int.reduceNeg, reduceIte, reduceCtorEq, SPx, SAx, hm]
           refine hK _ _ ?_
           clear hK K)
        | (refine W_draw_k (by decide +kernel) ?_
           intro K hK
           simp (maxSteps := 2000000) (disch := omega) only [SA, ofValue, ofCell, bin, intBin, un, idx, Go.Ev.builtin, calleeOf, V.isNilS, V.depthOk, depth1, V.ok1, V.isAgg, V.cells, isConst, Nat.reduceBEq, Nat.reduceEqDiff, ↓reduceIte, Nat.reduceLeDiff, Nat.reduceAdd, Nat.reduceMul, Nat.reduceSub, Nat.reduceLT, Int.reduceAdd, Int.reduceSub, Int.reduceMul, Int.reduceLT, Int.reduceLE, Int.reduceToNat, Int.reduceNeg, reduceIte, reduceCtorEq, SD, SPx, SAx, hm]
           repeat (refine ⟨by decide +kernel, ?_⟩)
           refine hK _ _ ?_
           clear hK K))
      refine end_ret hd (by simp (maxSteps := 2000000) (disch := omega) only [Tryd.results63, resVars, resVar, SA, ofValue, ofCell, bin, intBin, un, idx, Go.Ev.builtin, calleeOf, V.isNilS, V.depthOk, depth1, V.ok1, V.isAgg, V.cells, isConst, Nat.reduceBEq, Nat.reduceEqDiff, ↓reduceIte, Nat.reduceLeDiff, Nat.reduceAdd, Nat.reduceMul, Nat.reduceSub, Nat.reduceLT, Int.reduceAdd, Int.reduceSub, Int.reduceMul, Int.reduceLT, Int.reduceLE, Int.reduceToNat, Int.reduceNeg, reduceIte, reduceCtorEq, SPx, SAx, SSx, appendTo, elemsOf, hm]; rfl) ?_
      simp (maxSteps := 2000000) (disch := omega) only [SA, ofValue, ofCell, bin, intBin, un, idx, Go.Ev.builtin, calleeOf, V.isNilS, V.depthOk, depth1, V.ok1, V.isAgg, V.cells, isConst, Nat.reduceBEq, Nat.reduceEqDiff, ↓reduceIte, Nat.reduceLeDiff, Nat.reduceAdd, Nat.reduceMul, Nat.reduceSub, Nat.reduceLT, Int.reduceAdd, Int.reduceSub, Int.reduceMul, Int.reduceLT, Int.reduceLE, Int.reduceToNat, Int.reduceNeg, reduceIte, reduceCtorEq, true_and, and_true, Nat.zero_add, Nat.le_refl, if_true, ↓reduceIte, resOf, X_own, mv_int, mv_bool, mv_str, mv_sl, mv_nilS, mv_tup, mv2s_nil, mv2s_cons, mv2_int, mv2_bool, mv2_str, mv2_sl, mv2_nilS, Option.map_some, vi, vn, SPx, SAx, SSx, appendTo, elemsOf, hm]
      rw [frS, if_pos (.inl c1)]; rfl
    · simp at h
  have c1' : isRat N D = true := by simpa using c1
  by_cases c2 : N < 0
  · repeat (first
      | with_reducible first | refine W_seq ?_ | refine W_skip ?_ | refine W_label ?_ | refine W_ret ?_ | refine W_exit ?_ | refine W_block ?_ | refine thenI ?_ | refine thenRet ?_ | refine thenExit ?_ | refine blockRet ?_ | refine blockI ?_ | refine blockExit ?_ | refine blockExitNe rfl ?_
      | (with_reducible refine W_region_k ?_
         intro K hK
         simp (maxSteps := 2000000) (disch := omega) only [SA, ofValue, ofCell, bin, intBin, un, idx, Go.Ev.builtin, calleeOf, V.isNilS, V.depthOk, depth1, V.ok1, V.isAgg, V.cells, isConst, Nat.reduceBEq, Nat.reduceEqDiff, ↓reduceIte, Nat.reduceLeDiff, Nat.reduceAdd, Nat.reduceMul, Nat.reduceSub, Nat.reduceLT, Int.reduceAdd, Int.reduceSub, Int.reduceMul, Int.reduceLT, Int.reduceLE, Int.reduceToNat, Int.reduceNeg, reduceIte, reduceCtorEq, SPx, SAx, h0, hm, co123, sr123, (P123 N D).iff, c1', c2]
         refine hK _ _ ?_
         clear hK K)
      | (refine W_draw_k (by decide +kernel) ?_
         intro K hK
         simp (maxSteps := 2000000) (disch := omega) only [SA, ofValue, ofCell, bin, intBin, un, idx, Go.Ev.builtin, calleeOf, V.isNilS, V.depthOk, depth1, V.ok1, V.isAgg, V.cells, isConst, Nat.reduceBEq, Nat.reduceEqDiff, ↓reduceIte, Nat.reduceLeDiff, Nat.reduceAdd, Nat.reduceMul, Nat.reduceSub, Nat.reduceLT, Int.reduceAdd, Int.reduceSub, Int.reduceMul, Int.reduceLT, Int.reduceLE, Int.reduceToNat, Int.reduceNeg, reduceIte, reduceCtorEq, SD, SPx, SAx, h0, hm, co123, sr123, (P123 N D).iff, c1', c2]
         repeat (refine ⟨by decide +kernel, ?_⟩)
         refine hK _ _ ?_
         clear hK K))
    with_reducible refine W_cond2 (by simp only [SO, ofValue, ofCell, Nat.reduceBEq, Nat.reduceEqDiff, ↓reduceIte]; rfl) (fun h => ?_) (fun h => ?_)
    · repeat (first
        | with_reducible first | refine W_seq ?_ | refine W_skip ?_ | refine W_label ?_ | refine W_ret ?_ | refine W_exit ?_ | refine W_block ?_ | refine thenI ?_ | refine thenRet ?_ | refine thenExit ?_ | refine blockRet ?_ | refine blockI ?_ | refine blockExit ?_ | refine blockExitNe rfl ?_
        | (with_reducible refine W_region_k ?_
           intro K hK
           simp (maxSteps := 2000000) (disch := omega) only [SA, ofValue, ofCell, bin, intBin, un, idx, Go.Ev.builtin, calleeOf, V.isNilS, V.depthOk, depth1, V.ok1, V.isAgg, V.cells, isConst, Nat.reduceBEq, Nat.reduceEqDiff, ↓reduceIte, Nat.reduceLeDiff, Nat.reduceAdd, Nat.reduceMul, Nat.reduceSub, Nat.reduceLT, Int.reduceAdd, Int.reduceSub, Int.reduceMul, Int.reduceLT, Int.reduceLE, Int.reduceToNat, Int.reduceNeg, reduceIte, reduceCtorEq, SPx, SAx, hm]
           refine hK _ _ ?_
           clear hK K)
        | (refine W_draw_k (by decide +kernel) ?_
           intro K hK
           simp (maxSteps := 2000000) (disch := omega) only [SA, ofValue, ofCell, bin, intBin, un, idx, Go.Ev.builtin, calleeOf, V.isNilS, V.depthOk, depth1, V.ok1, V.isAgg, V.cells, isConst, Nat.reduceBEq, Nat.reduceEqDiff, ↓reduceIte, Nat.reduceLeDiff, Nat.reduceAdd, Nat.reduceMul, Nat.reduceSub, Nat.reduceLT, Int.reduceAdd, Int.reduceSub, Int.reduceMul, Int.reduceLT, Int.reduceLE, Int.reduceToNat, Int.reduceNeg, reduceIte, reduceCtorEq, SD, SPx, SAx, hm]
           repeat (refine ⟨by decide +kernel, ?_⟩)
           refine hK _ _ ?_
           clear hK K))
      refine end_ret hd (by simp (maxSteps := 2000000) (disch := omega) only [Tryd.results63, resVars, resVar, SA, ofValue, ofCell, bin, intBin, un, idx, Go.Ev.builtin, calleeOf, V.isNilS, V.depthOk, depth1, V.ok1, V.isAgg, V.cells, isConst, Nat.reduceBEq, Nat.reduceEqDiff, ↓reduceIte, Nat.reduceLeDiff, Nat.reduceAdd, Nat.reduceMul, Nat.reduceSub, Nat.reduceLT, Int.reduceAdd, Int.reduceSub, Int.reduceMul, Int.reduceLT, Int.reduceLE, Int.reduceToNat, Int.reduceNeg, reduceIte, reduceCtorEq, SPx, SAx, SSx, appendTo, elemsOf, hm]; rfl) ?_
      simp (maxSteps := 2000000) (disch := omega) only [SA, ofValue, ofCell, bin, intBin, un, idx, Go.Ev.builtin, calleeOf, V.isNilS, V.depthOk, depth1, V.ok1, V.isAgg, V.cells, isConst, Nat.reduceBEq, Nat.reduceEqDiff, ↓reduceIte, Nat.reduceLeDiff, Nat.reduceAdd, Nat.reduceMul, Nat.reduceSub, Nat.reduceLT, Int.reduceAdd, Int.reduceSub, Int.reduceMul, Int.reduceLT, Int.reduceLE, Int.reduceToNat, Int.reduceNeg, reduceIte, reduceCtorEq, true_and, and_true, Nat.zero_add, Nat.le_refl, if_true, ↓reduceIte, resOf, X_own, mv_int, mv_bool, mv_str, mv_sl, mv_nilS, mv_tup, mv2s_nil, mv2s_cons, mv2_int, mv2_bool, mv2_str, mv2_sl, mv2_nilS, Option.map_some, vi, vn, SPx, SAx, SSx, appendTo, elemsOf, hm]
      rw [frS, if_pos (.inr c2)]; rfl
    · simp at h
  rw [frS, if_neg (fun e => e.elim c1 c2)]
  have hb : 1 ≤ D ∧ D ≤ 1048576 ∧ N ≤ 1099511627776 := by
    have := of_decide_eq_true c1'
    omega
  obtain ⟨b1, b2, b3⟩ := hb
  repeat (first
    | with_reducible first | refine W_seq ?_ | refine W_skip ?_ | refine W_label ?_ | refine W_ret ?_ | refine W_exit ?_ | refine W_block ?_ | refine thenI ?_ | refine thenRet ?_ | refine thenExit ?_ | refine blockRet ?_ | refine blockI ?_ | refine blockExit ?_ | refine blockExitNe rfl ?_
    | (with_reducible refine W_region_k ?_
       intro K hK
       simp (maxSteps := 2000000) (disch := omega) only [SA, ofValue, ofCell, bin, intBin, un, idx, Go.Ev.builtin, calleeOf, V.isNilS, V.depthOk, depth1, V.ok1, V.isAgg, V.cells, isConst, Nat.reduceBEq, Nat.reduceEqDiff, ↓reduceIte, Nat.reduceLeDiff, Nat.reduceAdd, Nat.reduceMul, Nat.reduceSub, Nat.reduceLT, Int.reduceAdd, Int.reduceSub, Int.reduceMul, Int.reduceLT, Int.reduceLE, Int.reduceToNat, Int.reduceNeg, reduceIte, reduceCtorEq, SPx, SAx, h0, hm, co123, sr123, (P123 N D).iff, c1', c2]
       refine hK _ _ ?_
       clear hK K)
    | (refine W_draw_k (by decide +kernel) ?_
       intro K hK
       simp (maxSteps := 2000000) (disch := omega) only [SA, ofValue, ofCell, bin, intBin, un, idx, Go.Ev.builtin, calleeOf, V.isNilS, V.depthOk, depth1, V.ok1, V.isAgg, V.cells, isConst, Nat.reduceBEq, Nat.reduceEqDiff, ↓reduceIte, Nat.reduceLeDiff, Nat.reduceAdd, Nat.reduceMul, Nat.reduceSub, Nat.reduceLT, Int.reduceAdd, Int.reduceSub, Int.reduceMul, Int.reduceLT, Int.reduceLE, Int.reduceToNat, Int.reduceNeg, reduceIte, reduceCtorEq, SD, SPx, SAx, h0, hm, co123, sr123, (P123 N D).iff, c1', c2]
       repeat (refine ⟨by decide +kernel, ?_⟩)
       refine hK _ _ ?_
       clear hK K))
  with_reducible refine W_cond2 (by simp only [SO, ofValue, ofCell, Nat.reduceBEq, Nat.reduceEqDiff, ↓reduceIte]; rfl) (fun h => ?_) (fun h => ?_)
  · simp at h
  obtain ⟨n, rfl⟩ : ∃ n : Nat, N = n := ⟨N.toNat, by omega⟩
  obtain ⟨d, rfl⟩ : ∃ d : Nat, D = d := ⟨D.toNat, by omega⟩
  rw [Int.toNat_natCast, Int.toNat_natCast]
  have hd0 : 0 < d := by omega
  have q1 := P88 d (by omega)
  have q2 : Ans X 87 [wv (d * 60 ^ 72), .sl [vi 2, vi 3, vi 5]] _ := P87 [2, 3, 5] d (by intro p hp; simp at hp; omega) (by decide) hd0 (lt_pow_mono (j := 90) (i := 16) (by omega) (by decide))
  have q3 : Ans X 88 [vi 1] (.ret (wv (1 * 60 ^ 72))) := P88 1 (by decide)
  have hR : (splitF [2, 3, 5] d).2 ≤ d := by
    simp only [splitF]
    exact Nat.le_trans (rem_le _ _) (Nat.le_trans (rem_le _ _) (rem_le _ _))
  have hT : (splitF [2, 3, 5] d).1 = [mult 2 d, mult 3 (rem 2 d), mult 5 (rem 3 (rem 2 d))] := rfl
  rw [hT] at q2
  have hRb : (splitF [2, 3, 5] d).2 < 60 ^ 16 := Nat.lt_of_le_of_lt hR (by omega)
  have hsp := split_eq hd0
  generalize hRe : (splitF [2, 3, 5] d).2 = R at q2 hRb hsp
  have hE : allEq (dig (R * 60 ^ 72)) (dig (1 * 60 ^ 72)) 168 0 = decide (R = 1) := by
    rw [allEq_dig (by
      calc R * 60 ^ 72 < 60 ^ 16 * 60 ^ 72 := Nat.mul_lt_mul_of_pos_right hRb (by decide)
        _ ≤ 60 ^ 168 := by decide) (by decide)]
    rw [decide_eq_decide, Nat.one_mul]
    constructor
    · intro e
      have e' : R * 60 ^ 72 = 1 * 60 ^ 72 := by rw [Nat.one_mul]; exact e
      exact Nat.eq_of_mul_eq_mul_right (pow_pos 72) e'
    · rintro rfl; rw [Nat.one_mul]
  rw [show (1 * 60 ^ 72 : Nat) = 60 ^ 72 from Nat.one_mul _] at hE q3
  clear hR h c1 c1' c2 hRb
  repeat (first
    | with_reducible first | refine W_seq ?_ | refine W_skip ?_ | refine W_label ?_ | refine W_ret ?_ | refine W_exit ?_ | refine W_block ?_ | refine thenI ?_ | refine thenRet ?_ | refine thenExit ?_ | refine blockRet ?_ | refine blockI ?_ | refine blockExit ?_ | refine blockExitNe rfl ?_
    | (with_reducible refine W_region_k ?_
       intro K hK
       simp (maxSteps := 2000000) (disch := omega) only [SA, ofValue, ofCell, bin, intBin, un, idx, Go.Ev.builtin, calleeOf, V.isNilS, V.depthOk, depth1, V.ok1, V.isAgg, V.cells, isConst, Nat.reduceBEq, Nat.reduceEqDiff, ↓reduceIte, Nat.reduceLeDiff, Nat.reduceAdd, Nat.reduceMul, Nat.reduceSub, Nat.reduceLT, Int.reduceAdd, Int.reduceSub, Int.reduceMul, Int.reduceLT, Int.reduceLE, Int.reduceToNat, Int.reduceNeg, reduceIte, reduceCtorEq, SPx, SAx, SSx, appendTo, elemsOf, SWx, h0, hm, rep3, cut3, co87, sr87, co88, sr88, q1.iff, q2.iff, q3.iff, eqOk100, eqT100, hE]
       refine hK _ _ ?_
       clear hK K)
    | (refine W_draw_k (by decide +kernel) ?_
       intro K hK
       simp (maxSteps := 2000000) (disch := omega) only [SA, ofValue, ofCell, bin, intBin, un, idx, Go.Ev.builtin, calleeOf, V.isNilS, V.depthOk, depth1, V.ok1, V.isAgg, V.cells, isConst, Nat.reduceBEq, Nat.reduceEqDiff, ↓reduceIte, Nat.reduceLeDiff, Nat.reduceAdd, Nat.reduceMul, Nat.reduceSub, Nat.reduceLT, Int.reduceAdd, Int.reduceSub, Int.reduceMul, Int.reduceLT, Int.reduceLE, Int.reduceToNat, Int.reduceNeg, reduceIte, reduceCtorEq, SD, SPx, SAx, SSx, appendTo, elemsOf, SWx, h0, hm, rep3, cut3, co87, sr87, co88, sr88, q1.iff, q2.iff, q3.iff, eqOk100, eqT100, hE]
       repeat (refine ⟨by decide +kernel, ?_⟩)
       refine hK _ _ ?_
       clear hK K))
  with_reducible refine W_cond2 (by simp only [SO, ofValue, ofCell, Nat.reduceBEq, Nat.reduceEqDiff, ↓reduceIte]; rfl) (fun h => ?_) (fun h => ?_)
  · have h : R ≠ 1 := by simpa using h
    repeat (first
      | with_reducible first | refine W_seq ?_ | refine W_skip ?_ | refine W_label ?_ | refine W_ret ?_ | refine W_exit ?_ | refine W_block ?_ | refine thenI ?_ | refine thenRet ?_ | refine thenExit ?_ | refine blockRet ?_ | refine blockI ?_ | refine blockExit ?_ | refine blockExitNe rfl ?_
      | (with_reducible refine W_region_k ?_
         intro K hK
         simp (maxSteps := 2000000) (disch := omega) only [SA, ofValue, ofCell, bin, intBin, un, idx, Go.Ev.builtin, calleeOf, V.isNilS, V.depthOk, depth1, V.ok1, V.isAgg, V.cells, isConst, Nat.reduceBEq, Nat.reduceEqDiff, ↓reduceIte, Nat.reduceLeDiff, Nat.reduceAdd, Nat.reduceMul, Nat.reduceSub, Nat.reduceLT, Int.reduceAdd, Int.reduceSub, Int.reduceMul, Int.reduceLT, Int.reduceLE, Int.reduceToNat, Int.reduceNeg, reduceIte, reduceCtorEq, SPx, SAx, hm]
         refine hK _ _ ?_
         clear hK K)
      | (refine W_draw_k (by decide +kernel) ?_
         intro K hK
         simp (maxSteps := 2000000) (disch := omega) only [SA, ofValue, ofCell, bin, intBin, un, idx, Go.Ev.builtin, calleeOf, V.isNilS, V.depthOk, depth1, V.ok1, V.isAgg, V.cells, isConst, Nat.reduceBEq, Nat.reduceEqDiff, ↓reduceIte, Nat.reduceLeDiff, Nat.reduceAdd, Nat.reduceMul, Nat.reduceSub, Nat.reduceLT, Int.reduceAdd, Int.reduceSub, Int.reduceMul, Int.reduceLT, Int.reduceLE, Int.reduceToNat, Int.reduceNeg, reduceIte, reduceCtorEq, SD, SPx, SAx, hm]
         repeat (refine ⟨by decide +kernel, ?_⟩)
         refine hK _ _ ?_
         clear hK K))
    refine end_ret hd (by simp (maxSteps := 2000000) (disch := omega) only [Tryd.results63, resVars, resVar, SA, ofValue, ofCell, bin, intBin, un, idx, Go.Ev.builtin, calleeOf, V.isNilS, V.depthOk, depth1, V.ok1, V.isAgg, V.cells, isConst, Nat.reduceBEq, Nat.reduceEqDiff, ↓reduceIte, Nat.reduceLeDiff, Nat.reduceAdd, Nat.reduceMul, Nat.reduceSub, Nat.reduceLT, Int.reduceAdd, Int.reduceSub, Int.reduceMul, Int.reduceLT, Int.reduceLE, Int.reduceToNat, Int.reduceNeg, reduceIte, reduceCtorEq, SPx, SAx, SSx, appendTo, elemsOf, hm]; rfl) ?_
    simp (maxSteps := 2000000) (disch := omega) only [SA, ofValue, ofCell, bin, intBin, un, idx, Go.Ev.builtin, calleeOf, V.isNilS, V.depthOk, depth1, V.ok1, V.isAgg, V.cells, isConst, Nat.reduceBEq, Nat.reduceEqDiff, ↓reduceIte, Nat.reduceLeDiff, Nat.reduceAdd, Nat.reduceMul, Nat.reduceSub, Nat.reduceLT, Int.reduceAdd, Int.reduceSub, Int.reduceMul, Int.reduceLT, Int.reduceLE, Int.reduceToNat, Int.reduceNeg, reduceIte, reduceCtorEq, true_and, and_true, Nat.zero_add, Nat.le_refl, if_true, ↓reduceIte, resOf, X_own, mv_int, mv_bool, mv_str, mv_sl, mv_nilS, mv_tup, mv2s_nil, mv2s_cons, mv2_int, mv2_bool, mv2_str, mv2_sl, mv2_nilS, Option.map_some, vi, vn, SPx, SAx, SSx, appendTo, elemsOf, hm]
    rfl
  have h : R = 1 := by simpa using h
  rw [if_neg (fun e => e h)]
  have hsp := hsp h
  clear hE q1 q2 q3 hRe h
  repeat (first
    | with_reducible first | refine W_seq ?_ | refine W_skip ?_ | refine W_label ?_ | refine W_ret ?_ | refine W_exit ?_ | refine W_block ?_ | refine thenI ?_ | refine thenRet ?_ | refine thenExit ?_ | refine blockRet ?_ | refine blockI ?_ | refine blockExit ?_ | refine blockExitNe rfl ?_
    | (with_reducible refine W_region_k ?_
       intro K hK
       simp (maxSteps := 2000000) (disch := omega) only [SA, ofValue, ofCell, bin, intBin, un, idx, Go.Ev.builtin, calleeOf, V.isNilS, V.depthOk, depth1, V.ok1, V.isAgg, V.cells, isConst, Nat.reduceBEq, Nat.reduceEqDiff, ↓reduceIte, Nat.reduceLeDiff, Nat.reduceAdd, Nat.reduceMul, Nat.reduceSub, Nat.reduceLT, Int.reduceAdd, Int.reduceSub, Int.reduceMul, Int.reduceLT, Int.reduceLE, Int.reduceToNat, Int.reduceNeg, reduceIte, reduceCtorEq, SPx, SAx, hm]
       refine hK _ _ ?_
       clear hK K)
    | (refine W_draw_k (by decide +kernel) ?_
       intro K hK
       simp (maxSteps := 2000000) (disch := omega) only [SA, ofValue, ofCell, bin, intBin, un, idx, Go.Ev.builtin, calleeOf, V.isNilS, V.depthOk, depth1, V.ok1, V.isAgg, V.cells, isConst, Nat.reduceBEq, Nat.reduceEqDiff, ↓reduceIte, Nat.reduceLeDiff, Nat.reduceAdd, Nat.reduceMul, Nat.reduceSub, Nat.reduceLT, Int.reduceAdd, Int.reduceSub, Int.reduceMul, Int.reduceLT, Int.reduceLE, Int.reduceToNat, Int.reduceNeg, reduceIte, reduceCtorEq, SD, SPx, SAx, hm]
       repeat (refine ⟨by decide +kernel, ?_⟩)
       refine hK _ _ ?_
       clear hK K))
  with_reducible refine W_cond2 (by simp only [SO, ofValue, ofCell, Nat.reduceBEq, Nat.reduceEqDiff, ↓reduceIte]; rfl) (fun h => ?_) (fun h => ?_)
  · have h : n = 0 := by have h' := eq_of_beq h; omega
    repeat (first
      | with_reducible first | refine W_seq ?_ | refine W_skip ?_ | refine W_label ?_ | refine W_ret ?_ | refine W_exit ?_ | refine W_block ?_ | refine thenI ?_ | refine thenRet ?_ | refine thenExit ?_ | refine blockRet ?_ | refine blockI ?_ | refine blockExit ?_ | refine blockExitNe rfl ?_
      | (with_reducible refine W_region_k ?_
         intro K hK
         simp (maxSteps := 2000000) (disch := omega) only [SA, ofValue, ofCell, bin, intBin, un, idx, Go.Ev.builtin, calleeOf, V.isNilS, V.depthOk, depth1, V.ok1, V.isAgg, V.cells, isConst, Nat.reduceBEq, Nat.reduceEqDiff, ↓reduceIte, Nat.reduceLeDiff, Nat.reduceAdd, Nat.reduceMul, Nat.reduceSub, Nat.reduceLT, Int.reduceAdd, Int.reduceSub, Int.reduceMul, Int.reduceLT, Int.reduceLE, Int.reduceToNat, Int.reduceNeg, reduceIte, reduceCtorEq, SPx, SAx, hm]
         refine hK _ _ ?_
         clear hK K)
      | (refine W_draw_k (by decide +kernel) ?_
         intro K hK
         simp (maxSteps := 2000000) (disch := omega) only [SA, ofValue, ofCell, bin, intBin, un, idx, Go.Ev.builtin, calleeOf, V.isNilS, V.depthOk, depth1, V.ok1, V.isAgg, V.cells, isConst, Nat.reduceBEq, Nat.reduceEqDiff, ↓reduceIte, Nat.reduceLeDiff, Nat.reduceAdd, Nat.reduceMul, Nat.reduceSub, Nat.reduceLT, Int.reduceAdd, Int.reduceSub, Int.reduceMul, Int.reduceLT, Int.reduceLE, Int.reduceToNat, Int.reduceNeg, reduceIte, reduceCtorEq, SD, SPx, SAx, hm]
         repeat (refine ⟨by decide +kernel, ?_⟩)
         refine hK _ _ ?_
         clear hK K))
    refine end_ret hd (by simp (maxSteps := 2000000) (disch := omega) only [Tryd.results63, resVars, resVar, SA, ofValue, ofCell, bin, intBin, un, idx, Go.Ev.builtin, calleeOf, V.isNilS, V.depthOk, depth1, V.ok1, V.isAgg, V.cells, isConst, Nat.reduceBEq, Nat.reduceEqDiff, ↓reduceIte, Nat.reduceLeDiff, Nat.reduceAdd, Nat.reduceMul, Nat.reduceSub, Nat.reduceLT, Int.reduceAdd, Int.reduceSub, Int.reduceMul, Int.reduceLT, Int.reduceLE, Int.reduceToNat, Int.reduceNeg, reduceIte, reduceCtorEq, SPx, SAx, SSx, appendTo, elemsOf, hm]; rfl) ?_
    simp (maxSteps := 2000000) (disch := omega) only [SA, ofValue, ofCell, bin, intBin, un, idx, Go.Ev.builtin, calleeOf, V.isNilS, V.depthOk, depth1, V.ok1, V.isAgg, V.cells, isConst, Nat.reduceBEq, Nat.reduceEqDiff, ↓reduceIte, Nat.reduceLeDiff, Nat.reduceAdd, Nat.reduceMul, Nat.reduceSub, Nat.reduceLT, Int.reduceAdd, Int.reduceSub, Int.reduceMul, Int.reduceLT, Int.reduceLE, Int.reduceToNat, Int.reduceNeg, reduceIte, reduceCtorEq, true_and, and_true, Nat.zero_add, Nat.le_refl, if_true, ↓reduceIte, resOf, X_own, mv_int, mv_bool, mv_str, mv_sl, mv_nilS, mv_tup, mv2s_nil, mv2s_cons, mv2_int, mv2_bool, mv2_str, mv2_sl, mv2_nilS, Option.map_some, vi, vn, SPx, SAx, SSx, appendTo, elemsOf, hm]
    rfl
  have hn0 : 0 < n := by have h' := ne_of_beq_false h; omega
  rw [if_neg (by omega)]
  generalize mult 2 d = i at hsp ⊢
  generalize mult 3 (rem 2 d) = j at hsp ⊢
  generalize mult 5 (rem 3 (rem 2 d)) = k at hsp ⊢
  obtain ⟨f1, f2, f3, f4⟩ := fr_bounds (N := n) (by omega) (by omega : d ≤ 1048576) hsp
  have key : ∀ (m : Mem) (dst : Nat) (K KP : V → Mem → Prop), m.out = [] → m.row ⟨0, 4, 0, 1⟩ = some ⟨1, 22, false, false, [.sl (nats [i, j, k])]⟩ → m.row ⟨0, 1, 0, 1⟩ = some ⟨1, 76, false, false, [.agg [vn n, vn d]]⟩ →
      (CallQ X 118 [vi 0, .fn 124 [] [.ptr ⟨0, 4, 0, 1⟩ 0 0, .ptr ⟨0, 1, 0, 1⟩ 0 0]] m dst K KP ↔ K (.tup [.agg [.sl (nats (digB (n * invW i j k))), vi ((vz (n * invW i j k) : Int) - invK i j k)], vi 0]) m) := by
    rintro ⟨own, out⟩ dst K KP ho r2 r3
    dsimp only at ho
    subst ho
    exact AnsAt.iff (m := ⟨own, []⟩) (M118 124 _ own _ rfl co124 sr124 (fun o1 => P124 n d i j k hn0 (by omega) f1 f2 f3 f4 o1 own r2 r3) _ (.inl ⟨_, _, rfl, rfl⟩))
  clear h hsp f1 f2 f3 f4 b1 b2 b3 hn0 hd0
  repeat (first
    | with_reducible first | refine W_seq ?_ | refine W_skip ?_ | refine W_label ?_ | refine W_ret ?_ | refine W_exit ?_ | refine W_block ?_ | refine thenI ?_ | refine thenRet ?_ | refine thenExit ?_ | refine blockRet ?_ | refine blockI ?_ | refine blockExit ?_ | refine blockExitNe rfl ?_
    | (with_reducible refine W_region_k ?_
       intro K hK
       simp (maxSteps := 2000000) (disch := omega) only [SA, ofValue, ofCell, bin, intBin, un, idx, Go.Ev.builtin, calleeOf, V.isNilS, V.depthOk, depth1, V.ok1, V.isAgg, V.cells, isConst, Nat.reduceBEq, Nat.reduceEqDiff, ↓reduceIte, Nat.reduceLeDiff, Nat.reduceAdd, Nat.reduceMul, Nat.reduceSub, Nat.reduceLT, Int.reduceAdd, Int.reduceSub, Int.reduceMul, Int.reduceLT, Int.reduceLE, Int.reduceToNat, Int.reduceNeg, reduceIte, reduceCtorEq]
       refine hK _ _ ?_
       clear hK K)
    | (refine W_draw_k (by decide +kernel) ?_
       intro K hK
       simp (maxSteps := 2000000) (disch := omega) only [SA, ofValue, ofCell, bin, intBin, un, idx, Go.Ev.builtin, calleeOf, V.isNilS, V.depthOk, depth1, V.ok1, V.isAgg, V.cells, isConst, Nat.reduceBEq, Nat.reduceEqDiff, ↓reduceIte, Nat.reduceLeDiff, Nat.reduceAdd, Nat.reduceMul, Nat.reduceSub, Nat.reduceLT, Int.reduceAdd, Int.reduceSub, Int.reduceMul, Int.reduceLT, Int.reduceLE, Int.reduceToNat, Int.reduceNeg, reduceIte, reduceCtorEq, SD]
       repeat (refine ⟨by decide +kernel, ?_⟩)
       refine hK _ _ ?_
       clear hK K))
  with_reducible refine W_region_k ?_
  intro K hK
  simp (maxSteps := 2000000) (disch := omega) only [SA, ofValue, ofCell, bin, intBin, un, idx, Go.Ev.builtin, calleeOf, V.isNilS, V.depthOk, depth1, V.ok1, V.isAgg, V.cells, isConst, Nat.reduceBEq, Nat.reduceEqDiff, ↓reduceIte, Nat.reduceLeDiff, Nat.reduceAdd, Nat.reduceMul, Nat.reduceSub, Nat.reduceLT, Int.reduceAdd, Int.reduceSub, Int.reduceMul, Int.reduceLT, Int.reduceLE, Int.reduceToNat, Int.reduceNeg, reduceIte, reduceCtorEq, SPx, SAx, hm, co118, sr118]
  rw [key _ _ _ _ rfl (by simp [Mem.row_new, Mem.row_setW, Mem.new_out, Mem.gen_new, Mem.gen_nil, Mem.set_out]) (by simp [Mem.row_new, Mem.row_setW, Mem.new_out, Mem.gen_new, Mem.gen_nil, Mem.set_out])]
  simp (maxSteps := 2000000) (disch := omega) only [SA, ofValue, ofCell, bin, intBin, un, idx, Go.Ev.builtin, calleeOf, V.isNilS, V.depthOk, depth1, V.ok1, V.isAgg, V.cells, isConst, Nat.reduceBEq, Nat.reduceEqDiff, ↓reduceIte, Nat.reduceLeDiff, Nat.reduceAdd, Nat.reduceMul, Nat.reduceSub, Nat.reduceLT, Int.reduceAdd, Int.reduceSub, Int.reduceMul, Int.reduceLT, Int.reduceLE, Int.reduceToNat, Int.reduceNeg, reduceIte, reduceCtorEq, SPx, SAx]
  refine hK _ _ ?_
  clear hK K
  repeat (first
    | with_reducible first | refine W_seq ?_ | refine W_skip ?_ | refine W_label ?_ | refine W_ret ?_ | refine W_exit ?_ | refine W_block ?_ | refine thenI ?_ | refine thenRet ?_ | refine thenExit ?_ | refine blockRet ?_ | refine blockI ?_ | refine blockExit ?_ | refine blockExitNe rfl ?_
    | (with_reducible refine W_region_k ?_
       intro K hK
       simp (maxSteps := 2000000) (disch := omega) only [SA, ofValue, ofCell, bin, intBin, un, idx, Go.Ev.builtin, calleeOf, V.isNilS, V.depthOk, depth1, V.ok1, V.isAgg, V.cells, isConst, Nat.reduceBEq, Nat.reduceEqDiff, ↓reduceIte, Nat.reduceLeDiff, Nat.reduceAdd, Nat.reduceMul, Nat.reduceSub, Nat.reduceLT, Int.reduceAdd, Int.reduceSub, Int.reduceMul, Int.reduceLT, Int.reduceLE, Int.reduceToNat, Int.reduceNeg, reduceIte, reduceCtorEq, SPx]
       refine hK _ _ ?_
       clear hK K)
    | (refine W_draw_k (by decide +kernel) ?_
       intro K hK
       simp (maxSteps := 2000000) (disch := omega) only [SA, ofValue, ofCell, bin, intBin, un, idx, Go.Ev.builtin, calleeOf, V.isNilS, V.depthOk, depth1, V.ok1, V.isAgg, V.cells, isConst, Nat.reduceBEq, Nat.reduceEqDiff, ↓reduceIte, Nat.reduceLeDiff, Nat.reduceAdd, Nat.reduceMul, Nat.reduceSub, Nat.reduceLT, Int.reduceAdd, Int.reduceSub, Int.reduceMul, Int.reduceLT, Int.reduceLE, Int.reduceToNat, Int.reduceNeg, reduceIte, reduceCtorEq, SD, SPx]
       repeat (refine ⟨by decide +kernel, ?_⟩)
       refine hK _ _ ?_
       clear hK K))
  refine end_ret hd (by simp (maxSteps := 2000000) (disch := omega) only [Tryd.results63, resVars, resVar, SA, ofValue, ofCell, bin, intBin, un, idx, Go.Ev.builtin, calleeOf, V.isNilS, V.depthOk, depth1, V.ok1, V.isAgg, V.cells, isConst, Nat.reduceBEq, Nat.reduceEqDiff, ↓reduceIte, Nat.reduceLeDiff, Nat.reduceAdd, Nat.reduceMul, Nat.reduceSub, Nat.reduceLT, Int.reduceAdd, Int.reduceSub, Int.reduceMul, Int.reduceLT, Int.reduceLE, Int.reduceToNat, Int.reduceNeg, reduceIte, reduceCtorEq, SPx, SAx, SSx, appendTo, elemsOf]; rfl) ?_
  simp (maxSteps := 2000000) (disch := omega) only [SA, ofValue, ofCell, bin, intBin, un, idx, Go.Ev.builtin, calleeOf, V.isNilS, V.depthOk, depth1, V.ok1, V.isAgg, V.cells, isConst, Nat.reduceBEq, Nat.reduceEqDiff, ↓reduceIte, Nat.reduceLeDiff, Nat.reduceAdd, Nat.reduceMul, Nat.reduceSub, Nat.reduceLT, Int.reduceAdd, Int.reduceSub, Int.reduceMul, Int.reduceLT, Int.reduceLE, Int.reduceToNat, Int.reduceNeg, reduceIte, reduceCtorEq, true_and, and_true, Nat.zero_add, Nat.le_refl, if_true, ↓reduceIte, resOf, X_own, mv_int, mv_bool, mv_str, mv_sl, mv_nilS, mv_tup, mv2s_nil, mv2s_cons, mv2_int, mv2_bool, mv2_str, mv2_sl, mv2_nilS, Option.map_some, vi, vn, SPx, SAx, SSx, appendTo, elemsOf]
end Go.Proofs.YtpocekfifokndaaDoor
namespace Go.Pl
theorem digB_num {l : List Nat} (h : ∀ d ∈ l, d < 60) (hf : l.head? ≠ some 0) (hl : l.getLast? ≠ some 0) : digB (numL l.reverse) = l := by
  have hr : ∀ d ∈ l.reverse, d < 60 := fun d hd => h d (List.mem_reverse.1 hd)
  have hc : canL (numL l.reverse) = l.reverse := canL_num hr (by rw [List.getLast?_reverse]; exact hf)
  have hv : vz (numL l.reverse) = 0 := by
    rw [vz, dif_neg]
    rintro ⟨h0, hp⟩
    have hd := num_dig hr 0
    rw [dig, Nat.pow_zero, Nat.div_one, h0] at hd
    cases hx : l.getLast? with
    | none => rw [List.getLast?_eq_none_iff] at hx; subst hx; simp [numL] at hp
    | some x =>
      have hx2 : l.reverse[0]? = some x := by rw [← List.head?_eq_getElem?, List.head?_reverse, hx]
      rw [List.getD_eq_getElem?_getD, hx2] at hd
      exact hl (by rw [hx]; exact congrArg some hd.symm)
  rw [digB, core, hv, Nat.pow_zero, Nat.div_one, hc, List.reverse_reverse]
theorem vz_num {l : List Nat} (h : ∀ d ∈ l, d < 60) (hl : l.getLast? ≠ some 0) : vz (numL l.reverse) = 0 := by
  have hr : ∀ d ∈ l.reverse, d < 60 := fun d hd => h d (List.mem_reverse.1 hd)
  rw [vz, dif_neg]
  rintro ⟨h0, hp⟩
  have hd := num_dig hr 0
  rw [dig, Nat.pow_zero, Nat.div_one, h0] at hd
  cases hx : l.getLast? with
  | none => rw [List.getLast?_eq_none_iff] at hx; subst hx; simp [numL] at hp
  | some x =>
    have hx2 : l.reverse[0]? = some x := by rw [← List.head?_eq_getElem?, List.head?_reverse, hx]
    rw [List.getD_eq_getElem?_getD, hx2] at hd
    exact hl (by rw [hx]; exact congrArg some hd.symm)
theorem mult_pow {p M : Nat} (hp : 1 < p) (hM : M % p ≠ 0) : ∀ k, mult p (M * p ^ k) = k ∧ rem p (M * p ^ k) = M
  | 0 => by rw [Nat.pow_zero, Nat.mul_one]; exact ⟨mult_no hM, rem_no hM⟩
  | k + 1 => by
    have hp0 : 0 < p := by omega
    have hM0 : 0 < M := by
      rcases Nat.eq_zero_or_pos M with rfl | h
      · simp at hM
      · exact h
    have e : M * p ^ (k + 1) = p * (M * p ^ k) := by rw [Nat.pow_succ, ← Nat.mul_assoc, Nat.mul_comm]
    have h1 : M * p ^ (k + 1) % p = 0 := by rw [e]; exact Nat.mul_mod_right _ _
    have h2 : M * p ^ (k + 1) / p = M * p ^ k := by rw [e]; exact Nat.mul_div_cancel_left _ hp0
    have h3 : 0 < M * p ^ (k + 1) := Nat.mul_pos hM0 (Nat.pow_pos hp0)
    obtain ⟨i1, i2⟩ := mult_pow hp hM k
    exact ⟨by rw [mult_yes hp h3 h1, h2, i1], by rw [rem_yes hp h3 h1, h2, i2]⟩
end Go.Pl
namespace Go.Proofs.YtpocekfifokndaaDoor
open Go Go.Ev Go.Pl
set_option maxRecDepth 100000
set_option maxHeartbeats 4000000
theorem w34a : Ans X 34 [.str [49, 58, 48, 58, 51, 48]] (.ret (.tup [.sl [vi 1, vi 0, vi 30], vi 0, vi 0])) := by
  have h := P34 [49, 58, 48, 58, 51, 48] (by decide)
  rw [show parseS [49, 58, 48, 58, 51, 48] = ([1, 0, 30], 0, 0) by decide +kernel] at h
  exact h
theorem w34b : Ans X 34 [.str [49, 58, 54, 48]] (.ret (.tup [.sl [], vi 2, vi 30])) := by
  have h := P34 [49, 58, 54, 48] (by decide)
  rw [show parseS [49, 58, 54, 48] = ([], 2, 30) by decide +kernel] at h
  exact h
theorem g1 : digB 1 = [1] := digB_num (l := [1]) (by decide) (by decide) (by decide)
theorem w23 : Ans X 23 [.sl [vi 44, vi 26, vi 40], .sl [vi 1, vi 21]] (.ret (.tup [.sl [vi 1], vi 0])) := by
  have h := P23 [44, 26, 40] [1, 21]
  have hd : digB (numI [44, 26, 40] * numI [1, 21]) = [1] := by
    rw [show numI [44, 26, 40] * numI [1, 21] = 1 * 60 ^ 4 by decide, digB_shift, g1]
  rw [show mulS [44, 26, 40] [1, 21] = ([1], 0) by rw [mulS, if_neg (by decide), hd]; rfl] at h
  exact h
theorem g2 : mult 2 81 = 0 ∧ rem 2 81 = 81 := mult_pow (p := 2) (M := 81) (by decide) (by decide) 0
theorem g3 : mult 3 81 = 4 ∧ rem 3 81 = 1 := mult_pow (p := 3) (M := 1) (by decide) (by decide) 4
theorem g5 : mult 5 1 = 0 ∧ rem 5 1 = 1 := mult_pow (p := 5) (M := 1) (by decide) (by decide) 0
theorem w32a : Ans X 32 [.sl [vi 1, vi 21]] (.ret (.tup [.sl [vi 44, vi 26, vi 40], vi 0])) := by
  have h := P32 [1, 21]
  have hr : regS [1, 21] = (0, 4, 0, 0) := by
    rw [regS, if_neg (by decide), if_neg (by decide), show numI [1, 21] = 81 by decide]
    simp only [splitF, g2.1, g2.2, g3.1, g3.2, g5.1, g5.2]
    rfl
  have hd : digB (invW 0 4 0) = [44, 26, 40] := by
    rw [show invW 0 4 0 = numL [44, 26, 40].reverse by decide]
    exact digB_num (by decide) (by decide) (by decide)
  rw [show recS [1, 21] = ([44, 26, 40], 0) by rw [recS, hr]; dsimp only; rw [if_neg (by decide), hd]; rfl] at h
  exact h
theorem g7 : (mult 2 7 = 0 ∧ rem 2 7 = 7) ∧ (mult 3 7 = 0 ∧ rem 3 7 = 7) ∧ (mult 5 7 = 0 ∧ rem 5 7 = 7) :=
  ⟨mult_pow (p := 2) (M := 7) (by decide) (by decide) 0, mult_pow (p := 3) (M := 7) (by decide) (by decide) 0, mult_pow (p := 5) (M := 7) (by decide) (by decide) 0⟩
theorem w32b : Ans X 32 [.sl [vi 7]] (.ret (.tup [.sl [], vi 31])) := by
  have h := P32 [7]
  have hr : regS [7] = (0, 0, 0, 31) := by
    rw [regS, if_neg (by decide), if_neg (by decide), show numI [7] = 7 by decide]
    simp only [splitF, g7.1.1, g7.1.2, g7.2.1.1, g7.2.1.2, g7.2.2.1, g7.2.2.2]
    rfl
  rw [show recS [7] = ([], 31) by rw [recS, hr]; rfl] at h
  exact h
theorem w44 : Ans X 44 [vi 7, vi 3] (.ret (.tup [.agg [.sl [vi 8, vi 34, vi 17], vi (-3)], .agg [.sl [vi 8, vi 34, vi 18], vi (-3)], vi 0])) := by
  have h := P44 7 3 (by decide) (by decide) (by decide) (by decide)
  have hk : nearK 7 (60 ^ (3 - 1)) = 3 := by decide +kernel
  rw [hk] at h
  have e1 : 60 ^ 3 / 7 = numL [8, 34, 17].reverse := by decide
  have e2 : 60 ^ 3 / 7 + (if 0 < 60 ^ 3 % 7 then 1 else 0) = numL [8, 34, 18].reverse := by decide
  rw [e2, e1, shV, shV, digB_num (l := [8, 34, 17]) (by decide) (by decide) (by decide), digB_num (l := [8, 34, 18]) (by decide) (by decide) (by decide),
    vz_num (l := [8, 34, 17]) (by decide) (by decide), vz_num (l := [8, 34, 18]) (by decide) (by decide)] at h
  exact h
theorem g8 : (mult 2 8 = 3 ∧ rem 2 8 = 1) ∧ (mult 3 1 = 0 ∧ rem 3 1 = 1) :=
  ⟨mult_pow (p := 2) (M := 1) (by decide) (by decide) 3, mult_pow (p := 3) (M := 1) (by decide) (by decide) 0⟩
theorem w63 : Ans X 63 [.agg [vi 5, vi 8]] (.ret (.tup [.agg [.sl [vi 37, vi 30], vi (-2)], vi 0])) := by
  have h := P63 5 8
  have hr : frS 5 8 = ([37, 30], -2, 0) := by
    rw [frS, if_neg (by decide), show (8 : Int).toNat = 8 from rfl, show (5 : Int).toNat = 5 from rfl]
    simp only [splitF, g8.1.1, g8.1.2, g8.2.1, g8.2.2, g5.1, g5.2]
    rw [if_neg (by decide), if_neg (by decide), show 5 * invW 3 0 0 = numL [37, 30].reverse by decide, digB_num (by decide) (by decide) (by decide), vz_num (by decide) (by decide)]
    rfl
  rw [hr] at h
  exact h
theorem cut2 (a b : V) : cut [a, b] 0 2 = [a, b] := rfl
theorem rep2 (v : V) : List.replicate 2 v = [v, v] := rfl
theorem w29a : Ans X 29 [.sl [vi 1, vi 0, vi 30], vi 0, .sl [vi 1, vi 0, vi 30]] (.ret (.bool true)) := P29 [1, 0, 30] [1, 0, 30] 0 (by decide)
theorem w29b : Ans X 29 [.sl [vi 1], vi 0, .sl [vi 1]] (.ret (.bool true)) := P29 [1] [1] 0 (by decide)
theorem w29c : Ans X 29 [.sl [vi 44, vi 26, vi 40], vi 0, .sl [vi 44, vi 26, vi 40]] (.ret (.bool true)) := P29 [44, 26, 40] [44, 26, 40] 0 (by decide)
theorem w29d : Ans X 29 [.sl [vi 8, vi 34, vi 17], vi 0, .sl [vi 8, vi 34, vi 17]] (.ret (.bool true)) := P29 [8, 34, 17] [8, 34, 17] 0 (by decide)
theorem w29e : Ans X 29 [.sl [vi 8, vi 34, vi 18], vi 0, .sl [vi 8, vi 34, vi 18]] (.ret (.bool true)) := P29 [8, 34, 18] [8, 34, 18] 0 (by decide)
theorem w29f : Ans X 29 [.sl [vi 37, vi 30], vi 0, .sl [vi 37, vi 30]] (.ret (.bool true)) := P29 [37, 30] [37, 30] 0 (by decide)
theorem P26 : Ans X 26 [] (.ret (.bool true)) := by
  refine call_of_X (fn := Tryd.f26) 0 Tryd.func26 rfl (by decide +kernel) rfl ?_ ?_ ?_ ?_
  · rfl
  · exact fun _ => rfl
  · intro v hv; injection hv with hv; subst hv; rfl
  intro s hs hd ho
  have hm : s.m = ⟨.nil, []⟩ := by subst hs; rfl
  clear hs
  repeat (first
    | with_reducible first | refine W_seq ?_ | refine W_skip ?_ | refine W_label ?_ | refine W_ret ?_ | refine W_exit ?_ | refine W_block ?_ | refine thenI ?_ | refine thenRet ?_ | refine thenExit ?_ | refine blockRet ?_ | refine blockI ?_ | refine blockExit ?_ | refine blockExitNe rfl ?_
    | (with_reducible refine W_region_k ?_
       intro K hK
       simp (maxSteps := 2000000) (disch := omega) only [SA, ofValue, ofCell, bin, intBin, un, idx, Go.Ev.builtin, calleeOf, V.isNilS, V.depthOk, depth1, V.ok1, V.isAgg, V.cells, isConst, Nat.reduceBEq, Nat.reduceEqDiff, ↓reduceIte, Nat.reduceLeDiff, Nat.reduceAdd, Nat.reduceMul, Nat.reduceSub, Nat.reduceLT, Int.reduceAdd, Int.reduceSub, Int.reduceMul, Int.reduceLT, Int.reduceLE, Int.reduceToNat, Int.reduceNeg, reduceIte, reduceCtorEq, SPx, SAx, SSx, appendTo, elemsOf, hm, rep2, rep3, cut2, cut3, un, co34, sr34, co23, sr23, co32, sr32, co29, sr29, w34a.iff, w23.iff, w32a.iff, w32b.iff, w29a.iff, w29b.iff, w29c.iff, bne_self_eq_false, Bool.not_true]
       refine hK _ _ ?_
       clear hK K)
  )
  with_reducible refine W_cond2 (by simp only [SO, ofValue, ofCell, Nat.reduceBEq, Nat.reduceEqDiff, ↓reduceIte]; rfl) (fun h => ?_) (fun h => ?_)
  · exact absurd h (by decide)
  iterate 8 (first
    | with_reducible first | refine W_seq ?_ | refine W_skip ?_ | refine W_label ?_ | refine W_ret ?_ | refine W_exit ?_ | refine W_block ?_ | refine thenI ?_ | refine thenRet ?_ | refine thenExit ?_ | refine blockRet ?_ | refine blockI ?_ | refine blockExit ?_ | refine blockExitNe rfl ?_
    | (with_reducible refine W_region_k ?_
       intro K hK
       simp (maxSteps := 2000000) (disch := omega) only [SA, ofValue, ofCell, bin, intBin, un, idx, Go.Ev.builtin, calleeOf, V.isNilS, V.depthOk, depth1, V.ok1, V.isAgg, V.cells, isConst, Nat.reduceBEq, Nat.reduceEqDiff, ↓reduceIte, Nat.reduceLeDiff, Nat.reduceAdd, Nat.reduceMul, Nat.reduceSub, Nat.reduceLT, Int.reduceAdd, Int.reduceSub, Int.reduceMul, Int.reduceLT, Int.reduceLE, Int.reduceToNat, Int.reduceNeg, reduceIte, reduceCtorEq, SPx, SAx, SSx, appendTo, elemsOf, hm, rep2, rep3, cut2, cut3, un, co34, sr34, co44, sr44, co63, sr63, w34b.iff, w44.iff, w63.iff]
       refine hK _ _ ?_
       clear hK K)
  )
  refine W_seq ?_
  refine W_mid (fun s => s.dfs = [] ∧ s.m.out.length = 0 ∧ s.t.get 10 = .ptr ⟨0, 10, 0, 1⟩ 0 0 ∧ s.t.get 11 = .ptr ⟨0, 11, 0, 1⟩ 0 0 ∧ s.t.get 12 = .ptr ⟨0, 12, 0, 1⟩ 0 0 ∧ s.t.get 2 = vi 2 ∧ s.t.get 3 = vi 0 ∧ s.t.get 5 = vi 0 ∧ s.t.get 7 = vi 30 ∧
    s.m.row ⟨0, 10, 0, 1⟩ = some ⟨1, 54, false, false, [.agg [.sl [vi 8, vi 34, vi 17], vi (-3)]]⟩ ∧ s.m.row ⟨0, 11, 0, 1⟩ = some ⟨1, 54, false, false, [.agg [.sl [vi 8, vi 34, vi 18], vi (-3)]]⟩ ∧
    s.m.row ⟨0, 12, 0, 1⟩ = some ⟨1, 54, false, false, [.agg [.sl [vi 37, vi 30], vi (-2)]]⟩) ?_ ?_
  · repeat (first
      | with_reducible first | refine W_seq ?_ | refine W_skip ?_ | refine W_label ?_ | refine W_ret ?_ | refine W_exit ?_ | refine W_block ?_ | refine thenI ?_ | refine thenRet ?_ | refine thenExit ?_ | refine blockRet ?_ | refine blockI ?_ | refine blockExit ?_ | refine blockExitNe rfl ?_
      | (with_reducible refine W_region_k ?_
         intro K hK
         simp (maxSteps := 2000000) (disch := omega) only [SA, ofValue, ofCell, bin, intBin, un, idx, Go.Ev.builtin, calleeOf, V.isNilS, V.depthOk, depth1, V.ok1, V.isAgg, V.cells, isConst, Nat.reduceBEq, Nat.reduceEqDiff, ↓reduceIte, Nat.reduceLeDiff, Nat.reduceAdd, Nat.reduceMul, Nat.reduceSub, Nat.reduceLT, Int.reduceAdd, Int.reduceSub, Int.reduceMul, Int.reduceLT, Int.reduceLE, Int.reduceToNat, Int.reduceNeg, reduceIte, reduceCtorEq, SPx, SSx, appendTo, elemsOf, co34, sr34, w34b.iff]
         refine hK _ _ ?_
         clear hK K)
    )
    refine ⟨hd, ?_, ?_, ?_, ?_, ?_, ?_, ?_, ?_, ?_, ?_, ?_⟩
    all_goals (try simp (maxSteps := 2000000) (disch := omega) only [SO, ofValue, ofCell, Nat.reduceBEq, Nat.reduceEqDiff, ↓reduceIte, and_self, and_true, true_and, Mem.newRef_eq, Mem.gen_nil, Mem.gen_new, Mem.gen_set, Mem.row_new, Mem.row_setW, Mem.new_out, Mem.set_out, List.length_nil, List.length_cons, Nat.zero_le, Nat.le_refl, Nat.reduceLeDiff, Nat.reduceAdd, and_self, and_true, true_and, Nat.zero_add, hm])
  clear hd ho hm h
  rintro s ⟨hd, ho, h10, h11, h12, h2, h3, h5, h7, r10, r11, r12⟩
  repeat (first
    | with_reducible first | refine W_seq ?_ | refine W_skip ?_ | refine W_label ?_ | refine W_ret ?_ | refine W_exit ?_ | refine W_block ?_ | refine thenI ?_ | refine thenRet ?_ | refine thenExit ?_ | refine blockRet ?_ | refine blockI ?_ | refine blockExit ?_ | refine blockExitNe rfl ?_
    | (with_reducible refine W_region_k ?_
       intro K hK
       simp (maxSteps := 2000000) (disch := omega) only [SA, ofValue, ofCell, bin, intBin, un, idx, Go.Ev.builtin, calleeOf, V.isNilS, V.depthOk, depth1, V.ok1, V.isAgg, V.cells, isConst, Nat.reduceBEq, Nat.reduceEqDiff, ↓reduceIte, Nat.reduceLeDiff, Nat.reduceAdd, Nat.reduceMul, Nat.reduceSub, Nat.reduceLT, Int.reduceAdd, Int.reduceSub, Int.reduceMul, Int.reduceLT, Int.reduceLE, Int.reduceToNat, Int.reduceNeg, reduceIte, reduceCtorEq, SPx, SAx, SSx, appendTo, elemsOf, ho, h2, h3, h5, h7, h10, h11, h12, r10, r11, r12, rep2, rep3, cut2, cut3, un, co29, sr29, w29d.iff, w29e.iff, w29f.iff]
       refine hK _ _ ?_
       clear hK K)
  )
  refine end_ret hd (by simp (maxSteps := 2000000) (disch := omega) only [Tryd.results26, resVars, resVar, SA, ofValue, ofCell, bin, intBin, un, idx, Go.Ev.builtin, calleeOf, V.isNilS, V.depthOk, depth1, V.ok1, V.isAgg, V.cells, isConst, Nat.reduceBEq, Nat.reduceEqDiff, ↓reduceIte, Nat.reduceLeDiff, Nat.reduceAdd, Nat.reduceMul, Nat.reduceSub, Nat.reduceLT, Int.reduceAdd, Int.reduceSub, Int.reduceMul, Int.reduceLT, Int.reduceLE, Int.reduceToNat, Int.reduceNeg, reduceIte, reduceCtorEq, SPx]; rfl) ?_
  simp (maxSteps := 2000000) (disch := omega) only [SA, ofValue, ofCell, bin, intBin, un, idx, Go.Ev.builtin, calleeOf, V.isNilS, V.depthOk, depth1, V.ok1, V.isAgg, V.cells, isConst, Nat.reduceBEq, Nat.reduceEqDiff, ↓reduceIte, Nat.reduceLeDiff, Nat.reduceAdd, Nat.reduceMul, Nat.reduceSub, Nat.reduceLT, Int.reduceAdd, Int.reduceSub, Int.reduceMul, Int.reduceLT, Int.reduceLE, Int.reduceToNat, Int.reduceNeg, reduceIte, reduceCtorEq, true_and, and_true, Nat.zero_add, Nat.le_refl, if_true, ↓reduceIte, resOf, X_own, mv_int, mv_bool, mv_str, mv_sl, mv_nilS, mv_tup, mv2s_nil, mv2s_cons, mv2_int, mv2_bool, mv2_str, mv2_sl, mv2_nilS, Option.map_some, vi, vn, SPx]
end Go.Proofs.YtpocekfifokndaaDoor
namespace Go.Proofs.YtpocekfifokndaaDoor
open Go Go.Ev Go.Pl
set_option maxRecDepth 100000
set_option maxHeartbeats 4000000
theorem mulS_length (a b : List Int) : (mulS a b).1.length ≤ 16 := by
  unfold mulS
  split
  · exact Nat.zero_le _
  · split
    · exact Nat.zero_le _
    · dsimp only; omega
theorem Q25 (l : List Nat) (h : l.length < 1000000000000) : Ans X 25 [.sl (nats l), .sl (nats l)] (.ret (.bool true)) := by
  have q := P25 (l.map Int.ofNat) (l.map Int.ofNat) (by rw [List.length_map]; exact h)
  rw [← nats_ints, decide_eq_true rfl] at q
  exact q
theorem P3 (a b : List Int) : Ans X 3 [.sl (ints a), .sl (ints b)] (.ret (.bool true)) := by
  refine call_of_X (fn := Tryd.f3) 2 Tryd.func3 rfl (by decide +kernel) rfl ?_ ?_ ?_ ?_
  · rfl
  · exact fun _ => rfl
  · intro v hv; injection hv with hv; subst hv; rfl
  intro s hs hd ho
  have h0 : s.t.get 0 = .sl (ints a) := by subst hs; rfl
  have h1 : s.t.get 1 = .sl (ints b) := by subst hs; rfl
  clear hs
  have q := Q25 (mulS a b).1 (Nat.lt_of_le_of_lt (mulS_length a b) (by decide))
  have q1 := P23 a b
  have q2 := P24 a b
  generalize mulS a b = r at q q1 q2
  obtain ⟨l, e⟩ := r
  dsimp only at q q1 q2
  repeat (first
    | with_reducible first | refine W_seq ?_ | refine W_skip ?_ | refine W_label ?_ | refine W_ret ?_ | refine W_exit ?_ | refine W_block ?_ | refine thenI ?_ | refine thenRet ?_ | refine thenExit ?_ | refine blockRet ?_ | refine blockI ?_ | refine blockExit ?_ | refine blockExitNe rfl ?_
    | (with_reducible refine W_region_k ?_
       intro K hK
       simp (maxSteps := 2000000) (disch := omega) only [SA, ofValue, ofCell, bin, intBin, un, idx, Go.Ev.builtin, calleeOf, V.isNilS, V.depthOk, depth1, V.ok1, V.isAgg, V.cells, isConst, Nat.reduceBEq, Nat.reduceEqDiff, ↓reduceIte, Nat.reduceLeDiff, Nat.reduceAdd, Nat.reduceMul, Nat.reduceSub, Nat.reduceLT, Int.reduceAdd, Int.reduceSub, Int.reduceMul, Int.reduceLT, Int.reduceLE, Int.reduceToNat, Int.reduceNeg, reduceIte, reduceCtorEq, SPx, h0, h1, co23, sr23, co24, sr24, co25, sr25, co26, sr26, q.iff, q1.iff, q2.iff, P26.iff]
       refine hK _ _ ?_
       clear hK K)
  )
  refine end_ret hd (by simp (maxSteps := 2000000) (disch := omega) only [Tryd.results3, resVars, resVar, SA, ofValue, ofCell, bin, intBin, un, idx, Go.Ev.builtin, calleeOf, V.isNilS, V.depthOk, depth1, V.ok1, V.isAgg, V.cells, isConst, Nat.reduceBEq, Nat.reduceEqDiff, ↓reduceIte, Nat.reduceLeDiff, Nat.reduceAdd, Nat.reduceMul, Nat.reduceSub, Nat.reduceLT, Int.reduceAdd, Int.reduceSub, Int.reduceMul, Int.reduceLT, Int.reduceLE, Int.reduceToNat, Int.reduceNeg, reduceIte, reduceCtorEq, SPx]; rfl) ?_
  simp (maxSteps := 2000000) (disch := omega) only [SA, ofValue, ofCell, bin, intBin, un, idx, Go.Ev.builtin, calleeOf, V.isNilS, V.depthOk, depth1, V.ok1, V.isAgg, V.cells, isConst, Nat.reduceBEq, Nat.reduceEqDiff, ↓reduceIte, Nat.reduceLeDiff, Nat.reduceAdd, Nat.reduceMul, Nat.reduceSub, Nat.reduceLT, Int.reduceAdd, Int.reduceSub, Int.reduceMul, Int.reduceLT, Int.reduceLE, Int.reduceToNat, Int.reduceNeg, reduceIte, reduceCtorEq, true_and, and_true, Nat.zero_add, Nat.le_refl, if_true, ↓reduceIte, resOf, X_own, mv_int, mv_bool, mv_str, mv_sl, mv_nilS, mv_tup, mv2s_nil, mv2s_cons, mv2_int, mv2_bool, mv2_str, mv2_sl, mv2_nilS, Option.map_some, vi, vn, SPx]
end Go.Proofs.YtpocekfifokndaaDoor
namespace Go.Ev
structure Loc where
  b : Nat
  base : Nat
  z : Nat
  cap : Nat
abbrev Phi := Ref → Option (Option Loc)
abbrev Imm := Nat → Nat → Prop
inductive RelP (I : Imm) (w : World) : V → Value → Prop
  | undef : RelP I w .undef Go.undef
  | junk (x : Value) : (∀ b, x ≠ .bool b) → RelP I w .junk x
  | bool (b : Bool) : RelP I w (.bool b) (.bool b)
  | int (k : IntKind) (n : Int) : RelP I w (.int k n) (.int k n)
  | str (s : List UInt8) : RelP I w (.str s) (.string ⟨s.toArray⟩)
  | nilI : RelP I w .nilI .nilIface
  | ifc {t : TypeId} {v : V} {x : Value} : RelP I w v x → RelP I w (.ifc t v) (.iface t x)
  | nilF : RelP I w .nilF .nilFunc
  | fn {f : FuncId} {first : List V} {xs : List Value} : first.length = xs.length → (∀ (i : Nat) (v : V) (x : Value), first[i]? = some v → xs[i]? = some x → RelP I w v x) →
      RelP I w (.fn f first []) (.func (.func f) ⟨xs⟩ #[])
  | nilP : RelP I w .nilP (.pointer none)
  | cptr {e : V} {ty : TypeId} {off b o : Nat} (xs : Nat → Value) : (∀ (c : Nat) (v : V), e.cells[c]? = some v → w.cell? ⟨b, o + c, none⟩ = some (xs c) ∧ I b (o + c) ∧ (xs c).oneCell' = true) →
      (∀ (c : Nat) (v : V), e.cells[c]? = some v → RelP I w v (xs c)) → RelP I w (.cptr e ty off) (.pointer (some ⟨b, o + off, none⟩))
  | nilS : RelP I w .nilS (.slice none 0 0)
  | slNil {a : Option Addr} {cap : Nat} : RelP I w (.sl []) (.slice a 0 cap)
  | sl {es : List V} {b o z cap : Nat} (xs : Nat → Nat → Value) : es.length ≤ cap → (∀ (j : Nat) (e : V), es[j]? = some e → e.width = z) →
      (∀ (j : Nat) (e : V) (c : Nat) (v : V), es[j]? = some e → e.cells[c]? = some v → w.cell? ⟨b, o + j * z + c, none⟩ = some (xs j c) ∧ I b (o + j * z + c) ∧ (xs j c).oneCell' = true) →
      (∀ (j : Nat) (e : V) (c : Nat) (v : V), es[j]? = some e → e.cells[c]? = some v → RelP I w v (xs j c)) → RelP I w (.sl es) (.slice (some ⟨b, o, none⟩) es.length cap)
  | agg {cs : List V} {xs : List Value} : cs.length = xs.length → (∀ (i : Nat) (v : V) (x : Value), cs[i]? = some v → xs[i]? = some x → RelP I w v x) → (∀ x ∈ xs, x.oneCell' = true) →
      RelP I w (.agg cs) (.agg ⟨xs⟩)
  | tup {cs : List V} {xs : List Value} : cs.length = xs.length → (∀ (i : Nat) (v : V) (x : Value), cs[i]? = some v → xs[i]? = some x → RelP I w v x) → RelP I w (.tup cs) (.tuple ⟨xs⟩)
inductive Rel (P : Program) (I : Imm) (w : World) (φ : Phi) : V → Value → Prop
  | p {v : V} {x : Value} : RelP I w v x → Rel P I w φ v x
  | ptr {r : Ref} {j off : Nat} {l : Loc} : φ r = some (some l) → Rel P I w φ (.ptr r j off) (.pointer (some ⟨l.b, l.base + j * l.z + off, none⟩))
  | rsNil {r : Ref} {ty : TypeId} : φ r = some none → Rel P I w φ (.rs r ty 0 0) (.slice none 0 0)
  | rs {r : Ref} {ty : TypeId} {off len : Nat} {l : Loc} : φ r = some (some l) → off + len ≤ l.cap → l.z = P.cellsOf ty →
      Rel P I w φ (.rs r ty off len) (.slice (some ⟨l.b, l.base + off * l.z, none⟩) len (l.cap - off))
  | rsE {r : Ref} {ty : TypeId} {off : Nat} {l : Loc} {a : Option Addr} : φ r = some (some l) → 0 < off → Rel P I w φ (.rs r ty off 0) (.slice a 0 0)
  | fn {f : FuncId} {first cap : List V} {xs ys : List Value} : first.length = xs.length → (∀ (i : Nat) (v : V) (x : Value), first[i]? = some v → xs[i]? = some x → RelP I w v x) →
      cap.length = ys.length → (∀ (i : Nat) (v : V) (x : Value), cap[i]? = some v → ys[i]? = some x → Rel P I w φ v x) → Rel P I w φ (.fn f first cap) (.func (.func f) ⟨xs⟩ ⟨ys⟩)
  | agg {cs : List V} {xs : List Value} : cs.length = xs.length → (∀ (i : Nat) (v : V) (x : Value), cs[i]? = some v → xs[i]? = some x → Rel P I w φ v x) → (∀ x ∈ xs, x.oneCell' = true) →
      Rel P I w φ (.agg cs) (.agg ⟨xs⟩)
  | tup {cs : List V} {xs : List Value} : cs.length = xs.length → (∀ (i : Nat) (v : V) (x : Value), cs[i]? = some v → xs[i]? = some x → Rel P I w φ v x) → Rel P I w φ (.tup cs) (.tuple ⟨xs⟩)
theorem RelP.mono {I I' : Imm} {w w' : World} (hI : ∀ b o, I b o → I' b o) (hw : ∀ b o x, I b o → w.cell? ⟨b, o, none⟩ = some x → w'.cell? ⟨b, o, none⟩ = some x)
    {v : V} {x : Value} (h : RelP I w v x) : RelP I' w' v x := by
  induction h with
  | undef => exact .undef
  | junk x h => exact .junk x h
  | bool b => exact .bool b
  | int k n => exact .int k n
  | str s => exact .str s
  | nilI => exact .nilI
  | ifc _ ih => exact .ifc ih
  | nilF => exact .nilF
  | fn hl _ ih => exact .fn hl ih
  | nilP => exact .nilP
  | cptr xs hc _ ih => exact .cptr xs (fun c v e => ⟨hw _ _ _ (hc c v e).2.1 (hc c v e).1, hI _ _ (hc c v e).2.1, (hc c v e).2.2⟩) ih
  | nilS => exact .nilS
  | slNil => exact .slNil
  | sl xs h1 h2 h3 _ ih => exact .sl xs h1 h2 (fun j e c v a b => ⟨hw _ _ _ (h3 j e c v a b).2.1 (h3 j e c v a b).1, hI _ _ (h3 j e c v a b).2.1, (h3 j e c v a b).2.2⟩) ih
  | agg hl _ h1 ih => exact .agg hl ih h1
  | tup hl _ ih => exact .tup hl ih
theorem Rel.mono {P : Program} {I I' : Imm} {w w' : World} {φ φ' : Phi} (hI : ∀ b o, I b o → I' b o) (hw : ∀ b o x, I b o → w.cell? ⟨b, o, none⟩ = some x → w'.cell? ⟨b, o, none⟩ = some x)
    (hφ : ∀ r l, φ r = some l → φ' r = some l) {v : V} {x : Value} (h : Rel P I w φ v x) : Rel P I' w' φ' v x := by
  induction h with
  | p h => exact .p (h.mono hI hw)
  | ptr h => exact .ptr (hφ _ _ h)
  | rsNil h => exact .rsNil (hφ _ _ h)
  | rs h h1 h2 => exact .rs (hφ _ _ h) h1 h2
  | rsE h h1 => exact .rsE (hφ _ _ h) h1
  | fn h1 h2 h3 _ ih => exact .fn h1 (fun i v x a b => (h2 i v x a b).mono hI hw) h3 ih
  | agg h1 _ h2 ih => exact .agg h1 ih h2
  | tup h1 _ ih => exact .tup h1 ih
def RowOk (P : Program) (I : Imm) (w : World) (φ : Phi) (row : Row) : Option Loc → Prop
  | none => row.es = [] ∧ row.arr = true
  | some l => row.es.length ≤ l.cap ∧ l.z = P.cellsOf row.ty ∧ row.ty ≠ 0 ∧
      (∃ cs t, w.heap[l.b]? = some (.cells cs t (0, 0)) ∧ l.base + l.cap * l.z ≤ cs.size) ∧
      (∀ (j : Nat) (e : V), row.es[j]? = some e → e.width = l.z) ∧
      (∀ (j : Nat) (e : V) (c : Nat) (v : V), row.es[j]? = some e → e.cells[c]? = some v → ∃ x, w.cell? ⟨l.b, l.base + j * l.z + c, none⟩ = some x ∧ x.oneCell' = true ∧
        (if row.arr = true then RelP I w v x else Rel P I w φ v x)) ∧
      (∀ o, l.base ≤ o → (row.fz = true → l.base + row.es.length * l.z ≤ o) → ¬ I l.b o) ∧
      (row.fz = true → row.arr = true ∧ ∀ o, l.base ≤ o → o < l.base + row.es.length * l.z → I l.b o)
def Phi.upto (φ : Phi) (d : Nat) : Phi := fun r => if r.d ≤ d then φ r else none
theorem Phi.upto_le {φ : Phi} {d : Nat} : ∀ (r : Ref) (l : Option Loc), φ.upto d r = some l → φ r = some l := by
  intro r l h
  unfold Phi.upto at h
  split at h
  · exact h
  · simp at h
theorem Phi.upto_mono {φ φ' : Phi} (d : Nat) (h : ∀ r l, φ r = some l → φ' r = some l) : ∀ (r : Ref) (l : Option Loc), φ.upto d r = some l → φ'.upto d r = some l := by
  intro r l h'
  unfold Phi.upto at h' ⊢
  split at h'
  · rename_i hc; rw [if_pos hc]; exact h r l h'
  · simp at h'
structure MemOk (P : Program) (I : Imm) (w : World) (φ : Phi) (m : Mem) : Prop where
  live : ∀ r row, m.row r = some row → r.g ≠ 0 → ∃ l, φ r = some l ∧ RowOk P I w (φ.upto r.d) row l
  zero : ∀ r, φ r ≠ none → r.g ≠ 0
  gens : ∀ r, φ r ≠ none → ∃ rows, m.rows r.d = some rows ∧ r.g ≤ (rows.get r.s r.i).g
  dis : ∀ r r' l l', φ r = some (some l) → φ r' = some (some l') → ¬ (r.d = r'.d ∧ r.s = r'.s ∧ r.i = r'.i) → l.b ≠ l'.b
  size : ∀ r l, φ r = some (some l) → l.b < w.heap.size
def PlainAt (w : World) (b : Nat) : Prop := ∀ x, w.heap[b]? = some x → ∃ cs t, x = .cells cs t (0, 0)
structure Ext (I : Imm) (w : World) (φ : Phi) (I' : Imm) (w' : World) (φ' : Phi) : Prop where
  imm : ∀ b o, I b o → I' b o
  cell : ∀ b o x, I b o → w.cell? ⟨b, o, none⟩ = some x → w'.cell? ⟨b, o, none⟩ = some x
  phi : ∀ r l, φ r = some l → φ' r = some l
  hsize : w.heap.size ≤ w'.heap.size
  os : w'.os = w.os
  tape : w'.tape = w.tape
  output : w'.output = w.output
  block : ∀ b, b < w.heap.size → (∀ r l, φ r = some (some l) → l.b ≠ b) → w'.heap[b]? = w.heap[b]?
  fresh : ∀ r l, φ' r = some (some l) → (∃ r0 l0, φ r0 = some (some l0) ∧ l0.b = l.b ∧ r0.d = r.d) ∨ w.heap.size ≤ l.b
  immNew : ∀ b o, I' b o → I b o ∨ (∃ r0 l0, φ r0 = some (some l0) ∧ l0.b = b) ∨ w.heap.size ≤ b
  plain : ∀ b, PlainAt w b → PlainAt w' b
  old : (∀ b o, I b o → b < w.heap.size) → ∀ b o, I' b o → b < w'.heap.size
theorem Ext.refl (I : Imm) (w : World) (φ : Phi) : Ext I w φ I w φ :=
  { imm := fun _ _ h => h, cell := fun _ _ _ _ h => h, phi := fun _ _ h => h, hsize := Nat.le_refl _, os := rfl, tape := rfl, output := rfl, block := fun _ _ _ => rfl,
    fresh := fun r l h => .inl ⟨r, l, h, rfl, rfl⟩, immNew := fun _ _ h => .inl h, plain := fun _ h => h, old := fun h => h }
theorem Rel.ext {P : Program} {I I' : Imm} {w w' : World} {φ φ' : Phi} (h : Ext I w φ I' w' φ') {v : V} {x : Value} (hr : Rel P I w φ v x) : Rel P I' w' φ' v x :=
  hr.mono h.imm h.cell h.phi
theorem RelP.ext {I I' : Imm} {w w' : World} {φ φ' : Phi} (h : Ext I w φ I' w' φ') {v : V} {x : Value} (hr : RelP I w v x) : RelP I' w' v x :=
  hr.mono h.imm h.cell
end Go.Ev
namespace Go.Ev
theorem outSet_length : ∀ (l : List Rows) (d s i : Nat) (r : Row), (outSet l d s i r).length = l.length
  | [], _, _, _, _ => rfl
  | x :: xs, d, s, i, r => by
    rw [outSet]; split
    · simp
    · simp [outSet_length xs]
theorem outRows_outSet : ∀ (l : List Rows) (d s i : Nat) (r : Row) (d' : Nat),
    outRows (outSet l d s i r) d' = if d' = d then (outRows l d).map (·.upd s i r) else outRows l d'
  | [], d, s, i, r, d' => by simp [outSet, outRows]
  | x :: xs, d, s, i, r, d' => by
    rw [outSet]
    by_cases hd : d = xs.length
    · rw [if_pos hd]
      simp only [outRows]
      by_cases h' : d' = xs.length
      · simp [h', hd]
      · have : ¬ d' = d := fun e => h' (e.trans hd)
        simp [h', this]
    · rw [if_neg hd]
      simp only [outRows, outSet_length]
      by_cases h' : d' = xs.length
      · have : ¬ d' = d := fun e => hd (e.symm.trans h')
        simp [h', this, ]
        intro e; exact absurd e.symm hd
      · rw [if_neg h', outRows_outSet xs]
        by_cases h2 : d' = d
        · simp [h2, hd]
        · simp [h2, h']
theorem outRows_lt : ∀ (l : List Rows) (d : Nat), (outRows l d).isSome = true → d < l.length
  | [], d, h => by simp [outRows] at h
  | x :: xs, d, h => by
    rw [outRows] at h
    by_cases hd : d = xs.length
    · simp [hd]
    · rw [if_neg hd] at h
      have := outRows_lt xs d h
      simp; omega
theorem outRows_some : ∀ (l : List Rows) (d : Nat), d < l.length → ∃ r, outRows l d = some r
  | [], d, h => by simp at h
  | x :: xs, d, h => by
    rw [outRows]
    by_cases hd : d = xs.length
    · exact ⟨x, by simp [hd]⟩
    · rw [if_neg hd]; exact outRows_some xs d (by simp at h; omega)
@[simp] theorem Mem.set_len (m : Mem) (d s i : Nat) (r : Row) : (m.set d s i r).out.length = m.out.length := by
  unfold Mem.set; split
  · rfl
  · simp [outSet_length]
theorem Mem.rows_set (m : Mem) (d s i : Nat) (r : Row) (d' : Nat) : (m.set d s i r).rows d' = if d' = d then (m.rows d).map (·.upd s i r) else m.rows d' := by
  unfold Mem.set Mem.rows
  by_cases hd : d = m.out.length
  · simp only [hd, if_true]
    by_cases h' : d' = m.out.length
    · simp [h']
    · simp [h']
  · simp only [hd, if_false, outSet_length]
    by_cases h' : d' = m.out.length
    · have : ¬ d' = d := fun e => hd (e.symm.trans h')
      simp [h', this]
      intro e; exact absurd e.symm hd
    · rw [if_neg h', outRows_outSet]
      by_cases h2 : d' = d
      · simp [h2, hd]
      · simp [h2, h']
theorem Mem.row_eq (m : Mem) (r : Ref) (row : Row) : m.row r = some row ↔ ∃ rows, m.rows r.d = some rows ∧ rows.get r.s r.i = row ∧ row.g = r.g := by
  unfold Mem.row
  cases h : m.rows r.d with
  | none => simp
  | some rows =>
    simp only [Option.some.injEq]
    constructor
    · intro e
      split at e
      · rename_i hg; simp at e; exact ⟨rows, rfl, e, by rw [← e]; exact hg⟩
      · simp at e
    · rintro ⟨_, rfl, rfl, hg⟩
      simp [hg]
theorem Mem.row_set {m : Mem} {d s i : Nat} {row' : Row} {r : Ref} {row : Row} (h : (m.set d s i row').row r = some row) :
    (r.d = d ∧ r.s = s ∧ r.i = i ∧ row = row' ∧ r.g = row'.g) ∨ (¬ (r.d = d ∧ r.s = s ∧ r.i = i) ∧ m.row r = some row) := by
  rw [Mem.row_eq] at h
  obtain ⟨rows, h1, h2, h3⟩ := h
  rw [Mem.rows_set] at h1
  by_cases hd : r.d = d
  · rw [if_pos hd] at h1
    cases hr : m.rows d with
    | none => simp [hr] at h1
    | some rows0 =>
      simp [hr] at h1
      subst h1
      by_cases hsi : r.s = s ∧ r.i = i
      · obtain ⟨hs, hi⟩ := hsi
        left
        rw [hs, hi, Rows.get_upd_same] at h2
        exact ⟨hd, hs, hi, h2.symm, by rw [← h3, ← h2]⟩
      · right
        refine ⟨fun e => hsi e.2, ?_⟩
        rw [Rows.get_upd_ne _ _ _ _ _ _ hsi] at h2
        exact (Mem.row_eq _ _ _).2 ⟨rows0, by rw [hd]; exact hr, h2, h3⟩
  · rw [if_neg hd] at h1
    exact .inr ⟨fun e => hd e.1, (Mem.row_eq _ _ _).2 ⟨rows, h1, h2, h3⟩⟩
theorem Mem.row_set_same {m : Mem} {r : Ref} {rows : Rows} {row' : Row} (h : m.rows r.d = some rows) (hg : row'.g = r.g) : (m.set r.d r.s r.i row').row r = some row' := by
  rw [Mem.row_eq]
  exact ⟨rows.upd r.s r.i row', by rw [Mem.rows_set, if_pos rfl, h]; rfl, Rows.get_upd_same _ _ _ _, hg⟩
theorem Mem.row_set_ne {m : Mem} {d s i : Nat} {row' : Row} {r : Ref} (h : ¬ (r.d = d ∧ r.s = s ∧ r.i = i)) : (m.set d s i row').row r = m.row r := by
  unfold Mem.row
  rw [Mem.rows_set]
  by_cases hd : r.d = d
  · rw [if_pos hd, hd]
    cases hr : m.rows d with
    | none => rfl
    | some rows =>
      simp only [Option.map_some]
      rw [Rows.get_upd_ne _ _ _ _ _ _ (fun e => h ⟨hd, e⟩)]
  · rw [if_neg hd]
theorem Mem.rows_own (m : Mem) : m.rows m.out.length = some m.own := by simp [Mem.rows]
theorem Mem.new_eq (m : Mem) (s i : Nat) (ty : TypeId) (arr : Bool) (es : List V) :
    m.new s i ty arr es = m.set m.out.length s i { g := (m.own.get s i).g + 1, ty, arr, fz := false, es } := by
  simp [Mem.new, Mem.set]
@[simp] theorem Mem.new_len (m : Mem) (s i : Nat) (ty : TypeId) (arr : Bool) (es : List V) : (m.new s i ty arr es).out.length = m.out.length := rfl
theorem RowOk.keep {P : Program} {I I' : Imm} {w w' : World} {φ φ' : Phi} {row : Row} {l : Option Loc} (h : RowOk P I w φ row l)
    (hI : ∀ b o, I b o → I' b o) (hw : ∀ b o x, I b o → w.cell? ⟨b, o, none⟩ = some x → w'.cell? ⟨b, o, none⟩ = some x) (hφ : ∀ r l, φ r = some l → φ' r = some l)
    (hb : ∀ loc, l = some loc → w'.heap[loc.b]? = w.heap[loc.b]?) (hn : ∀ loc o, l = some loc → loc.base ≤ o → I' loc.b o → I loc.b o) : RowOk P I' w' φ' row l := by
  cases l with
  | none => exact h
  | some loc =>
    obtain ⟨h1, h2, h2', ⟨cs, t, h3, h4⟩, h5, h6, h7, h8⟩ := h
    have hb' := hb loc rfl
    refine ⟨h1, h2, h2', ⟨cs, t, by rw [hb']; exact h3, h4⟩, h5, ?_, ?_, ?_⟩
    · intro j e c v hj hc
      obtain ⟨x, hx, hx1, hx2⟩ := h6 j e c v hj hc
      refine ⟨x, ?_, hx1, ?_⟩
      · rw [← hx]; unfold World.cell?; simp only [hb']
      · split
        · rename_i ha; rw [if_pos ha] at hx2; exact hx2.mono hI hw
        · rename_i ha; rw [if_neg ha] at hx2; exact hx2.mono hI hw hφ
    · intro o ho hfo hc
      exact h7 o ho hfo (hn loc o rfl ho hc)
    · intro hf
      exact ⟨(h8 hf).1, fun o a b => hI _ _ ((h8 hf).2 o a b)⟩
theorem MemOk.replace {P : Program} {I I' : Imm} {w w' : World} {φ φ' : Phi} {m : Mem} {d s i : Nat} {row' : Row} {rows : Rows} {l' : Option Loc} (h : MemOk P I w φ m)
    (hr : m.rows d = some rows) (hg : (rows.get s i).g ≤ row'.g) (hg0 : row'.g ≠ 0)
    (hφ : ∀ r l, φ r = some l → φ' r = some l) (hφ' : ∀ r, φ' r ≠ none → φ r ≠ none ∨ r = ⟨d, s, i, row'.g⟩) (hnew : φ' ⟨d, s, i, row'.g⟩ = some l')
    (hrow : RowOk P I' w' (φ'.upto d) row' l')
    (hkeep : ∀ r row l, m.row r = some row → r.g ≠ 0 → ¬ (r.d = d ∧ r.s = s ∧ r.i = i) → φ r = some l → RowOk P I w (φ.upto r.d) row l → RowOk P I' w' (φ'.upto r.d) row l)
    (hdis : ∀ r l0 l1, ¬ (r.d = d ∧ r.s = s ∧ r.i = i) → φ r = some (some l0) → l' = some l1 → l0.b ≠ l1.b)
    (hsize : w.heap.size ≤ w'.heap.size) (hl' : ∀ l, l' = some l → l.b < w'.heap.size) : MemOk P I' w' φ' (m.set d s i row') := by
  have back : ∀ r row, (m.set d s i row').row r = some row → r.g ≠ 0 → ∀ l, φ' r = some l → (r = ⟨d, s, i, row'.g⟩ ∧ row = row' ∧ l = l') ∨ (¬ (r.d = d ∧ r.s = s ∧ r.i = i) ∧ m.row r = some row ∧ φ r = some l) := by
    intro r row hrow hg l hl
    rcases Mem.row_set hrow with ⟨a, b, c, rfl, e⟩ | ⟨hn, hm⟩
    · left
      have : r = ⟨d, s, i, row.g⟩ := by cases r; simp_all
      subst this
      exact ⟨rfl, rfl, by rw [hnew] at hl; exact (Option.some.inj hl).symm⟩
    · right
      refine ⟨hn, hm, ?_⟩
      obtain ⟨l0, h0, _⟩ := h.live r row hm hg
      rw [hφ _ _ h0] at hl
      rw [h0]; exact hl
  constructor
  · intro r row hm hg1
    rcases Mem.row_set hm with ⟨a, b, c, rfl, e⟩ | ⟨hn, hm'⟩
    · refine ⟨l', ?_, by rw [a]; exact hrow⟩
      have : r = ⟨d, s, i, row.g⟩ := by cases r; simp_all
      rw [this]; exact hnew
    · obtain ⟨l, hl, hok⟩ := h.live r row hm' hg1
      exact ⟨l, hφ _ _ hl, hkeep r row l hm' hg1 hn hl hok⟩
  · intro r hne
    rcases hφ' r hne with h1 | rfl
    · exact h.zero r h1
    · exact hg0
  · intro r hne
    rw [Mem.rows_set]
    rcases hφ' r hne with h1 | rfl
    · obtain ⟨rows1, hr1, hle⟩ := h.gens r h1
      by_cases hd : r.d = d
      · rw [if_pos hd, hr]
        refine ⟨_, rfl, ?_⟩
        have : rows1 = rows := by rw [hd, hr] at hr1; exact (Option.some.inj hr1).symm
        subst this
        by_cases hsi : r.s = s ∧ r.i = i
        · rw [hsi.1, hsi.2, Rows.get_upd_same]; rw [hsi.1, hsi.2] at hle; omega
        · rw [Rows.get_upd_ne _ _ _ _ _ _ hsi]; exact hle
      · rw [if_neg hd]; exact ⟨rows1, hr1, hle⟩
    · rw [if_pos rfl, hr]
      exact ⟨_, rfl, by rw [Rows.get_upd_same]; exact Nat.le_refl _⟩
  · intro r r' l1 l2 hl1 hl2 hne
    have old : ∀ r l, φ' r = some l → φ r ≠ none → φ r = some l := by
      intro r l hl hn
      cases h0 : φ r with
      | none => exact absurd h0 hn
      | some l0 =>
        have := hφ _ _ h0
        rw [hl] at this
        rw [Option.some.inj this]
    rcases hφ' r (by rw [hl1]; simp) with h1 | rfl
    · rcases hφ' r' (by rw [hl2]; simp) with h2 | rfl
      · exact h.dis r r' l1 l2 (old r _ hl1 h1) (old r' _ hl2 h2) hne
      · rw [hnew] at hl2
        exact hdis r l1 l2 hne (old r _ hl1 h1) (Option.some.inj hl2)
    · rcases hφ' r' (by rw [hl2]; simp) with h2 | rfl
      · rw [hnew] at hl1
        exact (hdis r' l2 l1 (fun e => hne ⟨e.1.symm, e.2.1.symm, e.2.2.symm⟩) (old r' _ hl2 h2) (Option.some.inj hl1)).symm
      · exact absurd ⟨rfl, rfl, rfl⟩ hne
  · intro r l hl
    rcases hφ' r (by rw [hl]; simp) with h1 | rfl
    · cases hr0 : φ r with
      | none => exact absurd hr0 h1
      | some l0 =>
        have := hφ _ _ hr0
        rw [hl] at this
        have e := Option.some.inj this
        subst e
        exact Nat.lt_of_lt_of_le (h.size r l hr0) hsize
    · rw [hnew] at hl
      exact hl' l (Option.some.inj hl)
theorem MemOk.keep {P : Program} {I I' : Imm} {w w' : World} {φ : Phi} {m : Mem} (h : MemOk P I w φ m)
    (hI : ∀ b o, I b o → I' b o) (hw : ∀ b o x, I b o → w.cell? ⟨b, o, none⟩ = some x → w'.cell? ⟨b, o, none⟩ = some x)
    (hb : ∀ r loc, φ r = some (some loc) → w'.heap[loc.b]? = w.heap[loc.b]?) (hn : ∀ r loc o, φ r = some (some loc) → I' loc.b o → I loc.b o)
    (hsize : w.heap.size ≤ w'.heap.size) : MemOk P I' w' φ m := by
  refine ⟨?_, h.zero, h.gens, h.dis, fun r l hl => Nat.lt_of_lt_of_le (h.size r l hl) hsize⟩
  intro r row hm hg
  obtain ⟨l, hl, hok⟩ := h.live r row hm hg
  exact ⟨l, hl, hok.keep hI hw (Phi.upto_mono r.d (fun _ _ h => h)) (fun loc e => hb r loc (by rw [hl, e])) (fun loc o e _ hc => hn r loc o (by rw [hl, e]) hc)⟩
theorem Ext.trans {I I' I'' : Imm} {w w' w'' : World} {φ φ' φ'' : Phi} (h : Ext I w φ I' w' φ') (k : Ext I' w' φ' I'' w'' φ'') : Ext I w φ I'' w'' φ'' := by
  constructor
  · exact fun b o x => k.imm _ _ (h.imm _ _ x)
  · exact fun b o x hi hx => k.cell _ _ _ (h.imm _ _ hi) (h.cell _ _ _ hi hx)
  · exact fun r l x => k.phi _ _ (h.phi _ _ x)
  · exact Nat.le_trans h.hsize k.hsize
  · exact k.os.trans h.os
  · exact k.tape.trans h.tape
  · exact k.output.trans h.output
  · intro b hb hn
    rw [k.block b (Nat.lt_of_lt_of_le hb h.hsize) ?_, h.block b hb hn]
    intro r l hl e
    rcases h.fresh r l hl with ⟨r0, l0, h0, e0, _⟩ | hs
    · exact hn r0 l0 h0 (e0.trans e)
    · omega
  · intro r l hl
    rcases k.fresh r l hl with ⟨r0, l0, h0, e0, d0⟩ | hs
    · rcases h.fresh r0 l0 h0 with ⟨r1, l1, h1, e1, d1⟩ | hs
      · exact .inl ⟨r1, l1, h1, e1.trans e0, d1.trans d0⟩
      · exact .inr (by omega)
    · exact .inr (Nat.le_trans h.hsize hs)
  · intro b o hb
    rcases k.immNew b o hb with h1 | ⟨r0, l0, h0, e0⟩ | hs
    · exact h.immNew b o h1
    · rcases h.fresh r0 l0 h0 with ⟨r1, l1, h1, e1, _⟩ | hs
      · exact .inr (.inl ⟨r1, l1, h1, e1.trans e0⟩)
      · exact .inr (.inr (by omega))
    · exact .inr (.inr (Nat.le_trans h.hsize hs))
  · exact fun b hb => k.plain b (h.plain b hb)
  · exact fun ho => k.old (h.old ho)
end Go.Ev
namespace Go.Ev
section
variable {P : Program} {I : Imm} {w : World} {φ : Phi}
theorem rel_int {k : IntKind} {n : Int} {x : Value} (h : Rel P I w φ (.int k n) x) : x = .int k n := by cases h with | p h => cases h; rfl
theorem rel_bool {b : Bool} {x : Value} (h : Rel P I w φ (.bool b) x) : x = .bool b := by cases h with | p h => cases h; rfl
theorem rel_str {s : List UInt8} {x : Value} (h : Rel P I w φ (.str s) x) : x = .string ⟨s.toArray⟩ := by cases h with | p h => cases h; rfl
theorem rel_nilI {x : Value} (h : Rel P I w φ .nilI x) : x = .nilIface := by cases h with | p h => cases h; rfl
theorem rel_nilP {x : Value} (h : Rel P I w φ .nilP x) : x = .pointer none := by cases h with | p h => cases h; rfl
theorem rel_nilS {x : Value} (h : Rel P I w φ .nilS x) : x = .slice none 0 0 := by cases h with | p h => cases h; rfl
theorem rel_undef {x : Value} (h : Rel P I w φ .undef x) : x = Go.undef := by cases h with | p h => cases h; rfl
theorem rel_ifc {t : TypeId} {v : V} {x : Value} (h : Rel P I w φ (.ifc t v) x) : ∃ y, x = .iface t y ∧ RelP I w v y := by
  cases h with | p h => cases h; exact ⟨_, rfl, by assumption⟩
theorem rel_ptr {r : Ref} {j off : Nat} {x : Value} (h : Rel P I w φ (.ptr r j off) x) : ∃ l, φ r = some (some l) ∧ x = .pointer (some ⟨l.b, l.base + j * l.z + off, none⟩) := by
  cases h with
  | p h => cases h
  | ptr h => exact ⟨_, h, rfl⟩
theorem rel_cptr {e : V} {ty : TypeId} {off : Nat} {x : Value} (h : Rel P I w φ (.cptr e ty off) x) : ∃ (b o : Nat) (xs : Nat → Value), x = .pointer (some ⟨b, o + off, none⟩) ∧
    (∀ (c : Nat) (v : V), e.cells[c]? = some v → w.cell? ⟨b, o + c, none⟩ = some (xs c) ∧ I b (o + c) ∧ (xs c).oneCell' = true) ∧ (∀ (c : Nat) (v : V), e.cells[c]? = some v → RelP I w v (xs c)) := by
  cases h with | p h => cases h with | cptr xs h1 h2 => exact ⟨_, _, xs, rfl, h1, h2⟩
theorem rel_rs {r : Ref} {ty : TypeId} {off len : Nat} {x : Value} (h : Rel P I w φ (.rs r ty off len) x) :
    (φ r = some none ∧ off = 0 ∧ len = 0 ∧ x = .slice none 0 0) ∨
    (∃ l, φ r = some (some l) ∧ off + len ≤ l.cap ∧ l.z = P.cellsOf ty ∧ x = .slice (some ⟨l.b, l.base + off * l.z, none⟩) len (l.cap - off)) ∨
    (∃ l a, φ r = some (some l) ∧ 0 < off ∧ len = 0 ∧ x = .slice a 0 0) := by
  cases h with
  | p h => cases h
  | rsNil h => exact .inl ⟨h, rfl, rfl, rfl⟩
  | rs h h1 h2 => exact .inr (.inl ⟨_, h, h1, h2, rfl⟩)
  | rsE h h1 => exact .inr (.inr ⟨_, _, h, h1, rfl, rfl⟩)
theorem rel_sl {es : List V} {x : Value} (h : Rel P I w φ (.sl es) x) : ∃ a cap, x = .slice a es.length cap ∧ es.length ≤ cap ∧
    (es = [] ∨ ∃ (b o z : Nat) (xs : Nat → Nat → Value), a = some ⟨b, o, none⟩ ∧ (∀ (j : Nat) (e : V), es[j]? = some e → e.width = z) ∧
      (∀ (j : Nat) (e : V) (c : Nat) (v : V), es[j]? = some e → e.cells[c]? = some v → w.cell? ⟨b, o + j * z + c, none⟩ = some (xs j c) ∧ I b (o + j * z + c) ∧ (xs j c).oneCell' = true) ∧
      (∀ (j : Nat) (e : V) (c : Nat) (v : V), es[j]? = some e → e.cells[c]? = some v → RelP I w v (xs j c))) := by
  cases h with
  | p h =>
    cases h with
    | slNil => exact ⟨_, _, rfl, Nat.zero_le _, .inl rfl⟩
    | sl xs h1 h2 h3 h4 => exact ⟨_, _, rfl, h1, .inr ⟨_, _, _, xs, rfl, h2, h3, h4⟩⟩
theorem rel_agg {cs : List V} {x : Value} (h : Rel P I w φ (.agg cs) x) : ∃ xs, x = .agg ⟨xs⟩ ∧ cs.length = xs.length ∧
    (∀ (i : Nat) (v : V) (y : Value), cs[i]? = some v → xs[i]? = some y → Rel P I w φ v y) ∧ (∀ y ∈ xs, y.oneCell' = true) := by
  cases h with
  | p h => cases h with | agg h1 h2 h3 => exact ⟨_, rfl, h1, fun i v y a b => .p (h2 i v y a b), h3⟩
  | agg h1 h2 h3 => exact ⟨_, rfl, h1, h2, h3⟩
theorem rel_tup {cs : List V} {x : Value} (h : Rel P I w φ (.tup cs) x) : ∃ xs, x = .tuple ⟨xs⟩ ∧ cs.length = xs.length ∧
    (∀ (i : Nat) (v : V) (y : Value), cs[i]? = some v → xs[i]? = some y → Rel P I w φ v y) := by
  cases h with
  | p h => cases h with | tup h1 h2 => exact ⟨_, rfl, h1, fun i v y a b => .p (h2 i v y a b)⟩
  | tup h1 h2 => exact ⟨_, rfl, h1, h2⟩
theorem rel_fn {f : FuncId} {first cap : List V} {x : Value} (h : Rel P I w φ (.fn f first cap) x) : ∃ xs ys, x = .func (.func f) ⟨xs⟩ ⟨ys⟩ ∧ first.length = xs.length ∧
    (∀ (i : Nat) (v : V) (y : Value), first[i]? = some v → xs[i]? = some y → RelP I w v y) ∧ cap.length = ys.length ∧
    (∀ (i : Nat) (v : V) (y : Value), cap[i]? = some v → ys[i]? = some y → Rel P I w φ v y) := by
  cases h with
  | p h => cases h with | fn h1 h2 => exact ⟨_, [], rfl, h1, h2, rfl, fun i v y a b => by simp at a⟩
  | fn h1 h2 h3 h4 => exact ⟨_, _, rfl, h1, h2, h3, h4⟩
def All2 (R : V → Value → Prop) (vs : List V) (xs : List Value) : Prop := vs.length = xs.length ∧ ∀ (i : Nat) (v : V) (x : Value), vs[i]? = some v → xs[i]? = some x → R v x
theorem All2.nil {R : V → Value → Prop} : All2 R [] [] := ⟨rfl, fun i v x a _ => by simp at a⟩
theorem All2.cons {R : V → Value → Prop} {v : V} {x : Value} {vs : List V} {xs : List Value} (h : R v x) (t : All2 R vs xs) : All2 R (v :: vs) (x :: xs) := by
  refine ⟨by simp [t.1], fun i v' x' a b => ?_⟩
  cases i with
  | zero => simp at a b; subst a; subst b; exact h
  | succ i => simp at a b; exact t.2 i v' x' a b
theorem All2.head {R : V → Value → Prop} {v : V} {vs : List V} {xs : List Value} (h : All2 R (v :: vs) xs) : ∃ x ys, xs = x :: ys ∧ R v x ∧ All2 R vs ys := by
  obtain ⟨hl, hr⟩ := h
  cases xs with
  | nil => simp at hl
  | cons x ys => exact ⟨x, ys, rfl, hr 0 v x rfl rfl, by simpa using hl, fun i v' x' a b => hr (i + 1) v' x' (by simpa using a) (by simpa using b)⟩
theorem All2.nil_left {R : V → Value → Prop} {xs : List Value} (h : All2 R [] xs) : xs = [] := by
  have := h.1; cases xs with
  | nil => rfl
  | cons => simp at this
theorem All2.append {R : V → Value → Prop} {a b : List V} {x y : List Value} (h : All2 R a x) (k : All2 R b y) : All2 R (a ++ b) (x ++ y) := by
  induction a generalizing x with
  | nil => rw [h.nil_left]; exact k
  | cons v vs ih => obtain ⟨x0, xs, rfl, h0, ht⟩ := h.head; exact .cons h0 (ih ht)
theorem All2.mono {R S : V → Value → Prop} {a : List V} {x : List Value} (h : All2 R a x) (hs : ∀ v x, R v x → S v x) : All2 S a x := ⟨h.1, fun i v y p q => hs _ _ (h.2 i v y p q)⟩
theorem All2.get {R : V → Value → Prop} {a : List V} {x : List Value} (h : All2 R a x) {i : Nat} {v : V} (e : a[i]? = some v) : ∃ y, x[i]? = some y ∧ R v y := by
  have hi : i < a.length := by
    rcases Nat.lt_or_ge i a.length with h' | h'
    · exact h'
    · simp [List.getElem?_eq_none h'] at e
  have hx : i < x.length := h.1 ▸ hi
  exact ⟨x[i], by simp [hx], h.2 i v _ e (by simp [hx])⟩
theorem All2.drop {R : V → Value → Prop} {a : List V} {x : List Value} (h : All2 R a x) (k : Nat) : All2 R (a.drop k) (x.drop k) :=
  ⟨by simp [h.1], fun i v y p q => h.2 (k + i) v y (by simpa using p) (by simpa using q)⟩
theorem All2.take {R : V → Value → Prop} {a : List V} {x : List Value} (h : All2 R a x) (k : Nat) : All2 R (a.take k) (x.take k) := by
  refine ⟨by simp [h.1], fun i v y p q => ?_⟩
  simp only [List.getElem?_take] at p q
  split at p
  · rename_i hi; rw [if_pos hi] at q; exact h.2 i v y p q
  · simp at p
theorem one_eq (x : Value) : one x = x.oneCell' := by cases x <;> rfl
theorem relP_ofCell (x : Value) : RelP I w (ofCell x) x := by
  cases x with
  | bool b => exact .bool _
  | int k n => exact .int _ _
  | string s => exact .str s.data.toList
  | nilIface => exact .nilI
  | nilFunc => exact .nilF
  | pointer a => cases a with
    | none => exact .nilP
    | some a => exact .junk _ (fun _ h => by cases h)
  | slice a l c =>
    simp only [ofCell]
    split
    · rename_i h
      simp only [Bool.and_eq_true, beq_iff_eq, Option.isNone_iff_eq_none] at h
      obtain ⟨⟨rfl, rfl⟩, rfl⟩ := h
      exact .nilS
    · exact .junk _ (fun _ h => by cases h)
  | func fn a b =>
    cases fn with
    | func f =>
      simp only [ofCell]
      split
      · rename_i h
        obtain ⟨ha, hb⟩ := h
        have ea : a = #[] := Array.eq_empty_of_size_eq_zero ha
        have eb : b = #[] := Array.eq_empty_of_size_eq_zero hb
        subst ea; subst eb
        exact .fn rfl (fun i v x a _ => by simp at a)
      · exact .junk _ (fun _ h => by cases h)
    | _ => exact .junk _ (fun _ h => by cases h)
  | _ => exact .junk _ (fun _ h => by cases h)
theorem relP_ofValue (x : Value) : RelP I w (ofValue x) x := by
  unfold ofValue
  split
  · rename_i cs
    split
    · rename_i h
      obtain ⟨l⟩ := cs
      refine .agg (by simp) (fun i v x a b => ?_) (fun x hx => by rw [← one_eq]; exact List.all_eq_true.1 h x hx)
      simp only [List.getElem?_map] at a
      rw [b] at a
      simp at a
      subst a
      exact relP_ofCell x
    · exact .junk _ (fun _ h => by cases h)
  · exact relP_ofCell x
theorem rel_cells {v : V} {x : Value} (h : Rel P I w φ v x) (h1 : v.ok1 = true) : All2 (Rel P I w φ) v.cells x.cells.toList ∧ (∀ y ∈ x.cells.toList, y.oneCell' = true) ∧ x.cells.size = v.width := by
  cases v with
  | agg cs =>
    obtain ⟨xs, rfl, hl, hr, ho⟩ := rel_agg h
    exact ⟨⟨by simpa [V.cells, Value.cells] using hl, by simpa [V.cells, Value.cells] using hr⟩, by simpa [Value.cells] using ho, by simp [Value.cells, V.width, hl]⟩
  | undef => simp [V.ok1] at h1
  | junk => simp [V.ok1] at h1
  | tup => simp [V.ok1] at h1
  | own => simp [V.ok1] at h1
  | bool b => cases rel_bool h; exact ⟨.cons h .nil, by simp [Value.cells, Value.oneCell'], rfl⟩
  | int k n => cases rel_int h; exact ⟨.cons h .nil, by simp [Value.cells, Value.oneCell'], rfl⟩
  | str s => cases rel_str h; exact ⟨.cons h .nil, by simp [Value.cells, Value.oneCell'], rfl⟩
  | nilI => cases rel_nilI h; exact ⟨.cons h .nil, by simp [Value.cells, Value.oneCell'], rfl⟩
  | ifc t v => obtain ⟨y, rfl, _⟩ := rel_ifc h; exact ⟨.cons h .nil, by simp [Value.cells, Value.oneCell'], rfl⟩
  | nilF => have h0 := h; cases h with | p h' => cases h'; exact ⟨.cons h0 .nil, by simp [Value.cells, Value.oneCell'], rfl⟩
  | fn f a b => obtain ⟨xs, ys, rfl, _⟩ := rel_fn h; exact ⟨.cons h .nil, by simp [Value.cells, Value.oneCell'], rfl⟩
  | nilP => cases rel_nilP h; exact ⟨.cons h .nil, by simp [Value.cells, Value.oneCell'], rfl⟩
  | ptr r j off => obtain ⟨l, _, rfl⟩ := rel_ptr h; exact ⟨.cons h .nil, by simp [Value.cells, Value.oneCell'], rfl⟩
  | cptr e ty off => obtain ⟨b, o, xs, rfl, _⟩ := rel_cptr h; exact ⟨.cons h .nil, by simp [Value.cells, Value.oneCell'], rfl⟩
  | nilS => cases rel_nilS h; exact ⟨.cons h .nil, by simp [Value.cells, Value.oneCell'], rfl⟩
  | sl es => obtain ⟨a, cap, rfl, _⟩ := rel_sl h; exact ⟨.cons h .nil, by simp [Value.cells, Value.oneCell'], rfl⟩
  | rs r ty off len =>
    rcases rel_rs h with ⟨_, _, _, rfl⟩ | ⟨l, _, _, _, rfl⟩ | ⟨l, a, _, _, _, rfl⟩
    · exact ⟨.cons h .nil, by simp [Value.cells, Value.oneCell'], rfl⟩
    · exact ⟨.cons h .nil, by simp [Value.cells, Value.oneCell'], rfl⟩
    · exact ⟨.cons h .nil, by simp [Value.cells, Value.oneCell'], rfl⟩
end
theorem heap_alloc_lt {w : World} {o : Obj} {b : Nat} (h : b < w.heap.size) : (w.alloc o).heap[b]? = w.heap[b]? := by
  show (w.heap.push o)[b]? = _
  rw [Array.getElem?_push_lt h]; simp [h]
theorem heap_alloc_new {w : World} {o : Obj} : (w.alloc o).heap[w.heap.size]? = some o := by
  show (w.heap.push o)[w.heap.size]? = _
  simp
theorem heap_alloc_cases {w : World} {o x : Obj} {b : Nat} (h : (w.alloc o).heap[b]? = some x) : (b = w.heap.size ∧ x = o) ∨ w.heap[b]? = some x := by
  have h' : (w.heap.push o)[b]? = some x := h
  rw [Array.getElem?_push] at h'
  split at h'
  · rename_i e; exact .inl ⟨e, (Option.some.inj h').symm⟩
  · exact .inr h'
def Phi.put (φ : Phi) (r : Ref) (l : Option Loc) : Phi := fun r' => if r' = r then some l else φ r'
section
variable {P : Program} {I : Imm} {w : World} {φ : Phi} {m : Mem}
theorem MemOk.newRef_none (h : MemOk P I w φ m) (s i : Nat) : φ (m.newRef s i) = none := by
  cases hr : φ (m.newRef s i) with
  | none => rfl
  | some l =>
    obtain ⟨rows, h1, h2⟩ := h.gens (m.newRef s i) (by rw [hr]; simp)
    simp only [Mem.newRef, Mem.rows_own, Option.some.injEq] at h1 h2
    subst h1
    omega
theorem Phi.put_mono {φ : Phi} {r : Ref} (h : φ r = none) (l : Option Loc) : ∀ r' l', φ r' = some l' → φ.put r l r' = some l' := by
  intro r' l' h'
  unfold Phi.put
  split
  · rename_i e; subst e; rw [h] at h'; simp at h'
  · exact h'
theorem Phi.put_same (φ : Phi) (r : Ref) (l : Option Loc) : φ.put r l r = some l := by simp [Phi.put]
theorem MemOk.nextRef_none (h : MemOk P I w φ m) {d s i : Nat} {rows : Rows} (hr : m.rows d = some rows) : φ ⟨d, s, i, (rows.get s i).g + 1⟩ = none := by
  cases hl : φ ⟨d, s, i, (rows.get s i).g + 1⟩ with
  | none => rfl
  | some l =>
    obtain ⟨rows', h1, h2⟩ := h.gens ⟨d, s, i, (rows.get s i).g + 1⟩ (by rw [hl]; simp)
    simp only at h1 h2
    rw [hr] at h1
    have := Option.some.inj h1
    subst this
    omega
theorem Mem.rows_le {m : Mem} {d : Nat} {rows : Rows} (h : m.rows d = some rows) : d ≤ m.out.length := by
  unfold Mem.rows at h
  split at h
  · omega
  · have := outRows_lt m.out d (by rw [h]; rfl)
    omega
theorem MemOk.upto_all (h : MemOk P I w φ m) : φ = φ.upto m.out.length := by
  funext r
  unfold Phi.upto
  split
  · rfl
  · rename_i hn
    cases hr : φ r with
    | none => rfl
    | some l =>
      obtain ⟨rows, h1, _⟩ := h.gens r (by rw [hr]; simp)
      exact absurd (Mem.rows_le h1) hn
theorem step_newAt (h : MemOk P I w φ m) (d s i : Nat) {rows : Rows} (hr : m.rows d = some rows) (ty : TypeId) (arr : Bool) (es : List V) (cs : Array Value) (t : TypeId) (z cap : Nat)
    (hcap : es.length ≤ cap) (hz : z = P.cellsOf ty) (hty : ty ≠ 0) (hsz : cap * z ≤ cs.size) (hw : ∀ (j : Nat) (e : V), es[j]? = some e → e.width = z)
    (hc : ∀ (j : Nat) (e : V) (c : Nat) (v : V), es[j]? = some e → e.cells[c]? = some v → ∃ x, cs[j * z + c]? = some x ∧ x.oneCell' = true ∧ (if arr = true then RelP I w v x else Rel P I w (φ.upto d) v x))
    (hI : ∀ o, ¬ I w.heap.size o) :
    MemOk P I (w.alloc (.cells cs t)) (φ.put ⟨d, s, i, (rows.get s i).g + 1⟩ (some ⟨w.heap.size, 0, z, cap⟩)) (m.set d s i { g := (rows.get s i).g + 1, ty, arr, fz := false, es }) ∧
    Ext I w φ I (w.alloc (.cells cs t)) (φ.put ⟨d, s, i, (rows.get s i).g + 1⟩ (some ⟨w.heap.size, 0, z, cap⟩)) := by
  have hnone := h.nextRef_none (s := s) (i := i) hr
  have hφ := Phi.put_mono (φ := φ) hnone (some ⟨w.heap.size, 0, z, cap⟩)
  have hcell : ∀ b o x, I b o → w.cell? ⟨b, o, none⟩ = some x → (w.alloc (.cells cs t)).cell? ⟨b, o, none⟩ = some x := by
    intro b o x hi hx
    rw [World.cell?_alloc_old _ _ _ (fun e => hI o (by simp only at e; rw [← e]; exact hi)), hx]
  have hext : Ext I w φ I (w.alloc (.cells cs t)) (φ.put ⟨d, s, i, (rows.get s i).g + 1⟩ (some ⟨w.heap.size, 0, z, cap⟩)) := by
    refine ⟨fun _ _ h => h, hcell, hφ, by simp, rfl, rfl, rfl, ?_, ?_, fun _ _ h => .inl h, ?_, fun ho b o hi => by have := ho b o hi; simp; omega⟩
    · intro b hb _
      exact heap_alloc_lt hb
    · intro r l hl
      unfold Phi.put at hl
      split at hl
      · simp at hl; subst hl; exact .inr (Nat.le_refl _)
      · exact .inl ⟨r, l, hl, rfl, rfl⟩
    · intro b hb x hx
      rcases heap_alloc_cases hx with ⟨_, rfl⟩ | h'
      · exact ⟨cs, t, rfl⟩
      · exact hb x h'
  refine ⟨?_, hext⟩
  refine h.replace (rows := rows) (l' := some ⟨w.heap.size, 0, z, cap⟩) hr (by simp) (by simp) hφ ?_ (Phi.put_same _ _ _) ?_ ?_ ?_ (by simp) ?_
  · intro r hne
    unfold Phi.put at hne
    split at hne
    · rename_i e; exact .inr e
    · exact .inl hne
  · refine ⟨hcap, hz, hty, ⟨cs, t, ?_, by simpa using hsz⟩, hw, ?_, ?_, ?_⟩
    · exact heap_alloc_new
    · intro j e c v hj hcv
      obtain ⟨x, hx, h1, h2⟩ := hc j e c v hj hcv
      refine ⟨x, by simp only [Nat.zero_add]; rw [World.cell?_alloc_new]; exact hx, h1, ?_⟩
      split
      · rename_i ha; simp only at ha; rw [if_pos ha] at h2; exact h2.mono (fun _ _ h => h) hcell
      · rename_i ha; simp only at ha; rw [if_neg ha] at h2; exact h2.mono (fun _ _ h => h) hcell (Phi.upto_mono d hφ)
    · intro o _ _; exact hI o
    · simp
  · intro r row l hm hg hn hl hok
    refine hok.keep (fun _ _ h => h) hcell (Phi.upto_mono r.d hφ) ?_ (fun _ _ _ _ h => h)
    intro loc e
    exact heap_alloc_lt (h.size r loc (by rw [hl, e]))
  · intro r l0 l1 hn hl e
    have := h.size r l0 hl
    simp only [Option.some.injEq] at e
    subst e
    simp only
    omega
  · intro l e
    simp only [Option.some.injEq] at e
    subst e
    simp
theorem step_new (h : MemOk P I w φ m) (s i : Nat) (ty : TypeId) (arr : Bool) (es : List V) (cs : Array Value) (t : TypeId) (z cap : Nat)
    (hcap : es.length ≤ cap) (hz : z = P.cellsOf ty) (hty : ty ≠ 0) (hsz : cap * z ≤ cs.size) (hw : ∀ (j : Nat) (e : V), es[j]? = some e → e.width = z)
    (hc : ∀ (j : Nat) (e : V) (c : Nat) (v : V), es[j]? = some e → e.cells[c]? = some v → ∃ x, cs[j * z + c]? = some x ∧ x.oneCell' = true ∧ (if arr = true then RelP I w v x else Rel P I w φ v x))
    (hI : ∀ o, ¬ I w.heap.size o) :
    MemOk P I (w.alloc (.cells cs t)) (φ.put (m.newRef s i) (some ⟨w.heap.size, 0, z, cap⟩)) (m.new s i ty arr es) ∧
    Ext I w φ I (w.alloc (.cells cs t)) (φ.put (m.newRef s i) (some ⟨w.heap.size, 0, z, cap⟩)) := by
  rw [Mem.new_eq]
  rw [h.upto_all] at hc
  exact step_newAt h m.out.length s i (Mem.rows_own m) ty arr es cs t z cap hcap hz hty hsz hw hc hI
theorem step_newNilAt (h : MemOk P I w φ m) (d s i : Nat) {rows : Rows} (hr : m.rows d = some rows) (ty : TypeId) :
    MemOk P I w (φ.put ⟨d, s, i, (rows.get s i).g + 1⟩ none) (m.set d s i { g := (rows.get s i).g + 1, ty, arr := true, fz := false, es := [] }) ∧
    Ext I w φ I w (φ.put ⟨d, s, i, (rows.get s i).g + 1⟩ none) := by
  have hnone := h.nextRef_none (s := s) (i := i) hr
  have hφ := Phi.put_mono (φ := φ) hnone none
  refine ⟨?_, ?_⟩
  · refine h.replace (rows := rows) (l' := none) hr (by simp) (by simp) hφ ?_ (Phi.put_same _ _ _) ⟨rfl, rfl⟩ ?_ (fun _ _ _ _ _ e => by simp at e) (Nat.le_refl _) (fun _ e => by simp at e)
    · intro r hne
      unfold Phi.put at hne
      split at hne
      · rename_i e; exact .inr e
      · exact .inl hne
    · intro r row l hm hg hn hl hok
      exact hok.keep (fun _ _ h => h) (fun _ _ _ _ h => h) (Phi.upto_mono r.d hφ) (fun _ _ => rfl) (fun _ _ _ _ h => h)
  · refine ⟨fun _ _ h => h, fun _ _ _ _ h => h, hφ, Nat.le_refl _, rfl, rfl, rfl, fun _ _ _ => rfl, ?_, fun _ _ h => .inl h, fun _ h => h, fun h => h⟩
    intro r l hl
    unfold Phi.put at hl
    split at hl
    · simp at hl
    · exact .inl ⟨r, l, hl, rfl, rfl⟩
theorem step_newNil (h : MemOk P I w φ m) (s i : Nat) :
    MemOk P I w (φ.put (m.newRef s i) none) (m.new s i 0 true []) ∧ Ext I w φ I w (φ.put (m.newRef s i) none) := by
  rw [Mem.new_eq]
  exact step_newNilAt h m.out.length s i (Mem.rows_own m) 0
theorem step_drew (h : MemOk P I w φ m) : MemOk P I w.drew φ m ∧ Ext I w φ I w.drew φ := by
  refine ⟨h.keep (fun _ _ h => h) (fun _ _ _ _ h => h) (fun _ _ _ => rfl) (fun _ _ _ _ h => h) (Nat.le_refl _), ?_⟩
  exact ⟨fun _ _ h => h, fun _ _ _ _ h => h, fun _ _ h => h, Nat.le_refl _, rfl, rfl, rfl, fun _ _ _ => rfl, fun r l h => .inl ⟨r, l, h, rfl, rfl⟩, fun _ _ h => .inl h, fun _ h => h, fun h => h⟩
end
end Go.Ev
