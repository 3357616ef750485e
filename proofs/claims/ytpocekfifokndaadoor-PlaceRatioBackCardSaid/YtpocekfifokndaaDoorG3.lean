/- Part 3 of the proof: an evaluator of the program, proved sound against the model, and what the functions of the program compute. No condition but those each theorem states. -/
import Derived.Test.YtpocekfifokndaaDoorG2
import Derived.Test.YtpocekfifokndaaDoorG1
import Derived.WalkKit
import Derived.Laws.Tables
import Derived.Great.BuildSlice
import Derived.Laws.MakeOwn
set_option linter.unusedSimpArgs false
set_option linter.unusedVariables false
namespace Go.Proofs.YtpocekfifokndaaDoor
open Go Go.Ev Go.Pl
set_option maxRecDepth 100000
set_option maxHeartbeats 4000000
theorem rowsOf_agg3 (cs : List V) : rowsOf (.agg cs) = if cs.any V.loose then cs.flatMap rows1 else [] := rfl
theorem rows1_rs (r : Ref) (t : TypeId) (o l : Nat) : rows1 (.rs r t o l) = [(r.d, r.s)] := rfl
theorem rows1_int (k : IntKind) (n : Int) : rows1 (.int k n) = [] := rfl
theorem rows1_sl (es : List V) : rows1 (.sl es) = [] := rfl
theorem D140n (own oM : Go.Ev.Rows) : ∃ k, evD X k 140 [.ptr ⟨1, 4, 0, 1⟩ 0 0, .ptr ⟨1, 5, 0, 1⟩ 0 0] [own, oM] none = some [own, oM] := by
  refine evD_of (X := X) (fn := Tryd.f140) Tryd.func140 rfl rfl ⟨by decide +kernel, Nat.le_of_ble_eq_true rfl, rfl, co140⟩ rfl ?_
  have hm : (enter [V.ptr ⟨1, 4, 0, 1⟩ 0 0, V.ptr ⟨1, 5, 0, 1⟩ 0 0] [own, oM]).m = ⟨.nil, [own, oM]⟩ := rfl
  have hd : (enter [V.ptr ⟨1, 4, 0, 1⟩ 0 0, V.ptr ⟨1, 5, 0, 1⟩ 0 0] [own, oM]).dfs = [] := rfl
  generalize enter [V.ptr ⟨1, 4, 0, 1⟩ 0 0, V.ptr ⟨1, 5, 0, 1⟩ 0 0] [own, oM] = s at *
  refine WL_k ?_
  intro K hK
  simp (maxSteps := 2000000) (disch := omega) only [SA, ofValue, ofCell, bin, intBin, un, idx, Go.Ev.builtin, calleeOf, V.isNilS, V.depthOk, depth1, V.ok1, V.isAgg, V.cells, isConst, Nat.reduceBEq, Nat.reduceEqDiff, ↓reduceIte, Nat.reduceLeDiff, Nat.reduceAdd, Nat.reduceMul, Nat.reduceSub, Nat.reduceLT, Int.reduceAdd, Int.reduceSub, Int.reduceMul, Int.reduceLT, Int.reduceLE, Int.reduceToNat, Int.reduceNeg, reduceIte, reduceCtorEq, SPx, hm]
  refine hK _ _ ⟨rfl, ?_⟩
  clear hK K
  repeat (first
    | with_reducible first | refine W_seq ?_ | refine W_skip ?_ | refine W_label ?_ | refine W_ret ?_ | refine W_exit ?_ | refine W_block ?_ | refine thenI ?_ | refine thenRet ?_ | refine thenExit ?_ | refine blockRet ?_ | refine blockI ?_ | refine blockExit ?_ | refine blockExitNe rfl ?_
    | (with_reducible refine W_region_k ?_
       intro K hK
       simp (maxSteps := 2000000) (disch := omega) only [SA, ofValue, ofCell, bin, intBin, un, idx, Go.Ev.builtin, calleeOf, V.isNilS, V.depthOk, depth1, V.ok1, V.isAgg, V.cells, isConst, Nat.reduceBEq, Nat.reduceEqDiff, ↓reduceIte, Nat.reduceLeDiff, Nat.reduceAdd, Nat.reduceMul, Nat.reduceSub, Nat.reduceLT, Int.reduceAdd, Int.reduceSub, Int.reduceMul, Int.reduceLT, Int.reduceLE, Int.reduceToNat, Int.reduceNeg, reduceIte, reduceCtorEq, SPx, bin, eqOk, eqT, isConst, Bool.or_true, Option.map_some]
       refine hK _ _ ?_
       clear hK K)
    | (refine W_draw_k (by decide +kernel) ?_
       intro K hK
       simp (maxSteps := 2000000) (disch := omega) only [SA, ofValue, ofCell, bin, intBin, un, idx, Go.Ev.builtin, calleeOf, V.isNilS, V.depthOk, depth1, V.ok1, V.isAgg, V.cells, isConst, Nat.reduceBEq, Nat.reduceEqDiff, ↓reduceIte, Nat.reduceLeDiff, Nat.reduceAdd, Nat.reduceMul, Nat.reduceSub, Nat.reduceLT, Int.reduceAdd, Int.reduceSub, Int.reduceMul, Int.reduceLT, Int.reduceLE, Int.reduceToNat, Int.reduceNeg, reduceIte, reduceCtorEq, SD, SPx, bin, eqOk, eqT, isConst, Bool.or_true, Option.map_some]
       repeat (refine ⟨by decide +kernel, ?_⟩)
       refine hK _ _ ?_
       clear hK K))
  refine cnd (fun h => ?_) (fun h => ?_)
  · simp at h
  · refine gP @Nat.zero_add ?_
    exact ⟨.inl rfl, by simp [hd], rfl⟩
theorem D140p (own oM : Go.Ev.Rows) (k : Int) (x4 x5 : V) (h4 : (⟨own, [oM]⟩ : Mem).row ⟨1, 4, 0, 1⟩ = some ⟨1, 54, false, false, [x4]⟩) (h5 : (⟨own, [oM]⟩ : Mem).row ⟨1, 5, 0, 1⟩ = some ⟨1, 23, false, false, [x5]⟩) :
    ∃ j, evD X j 140 [.ptr ⟨1, 4, 0, 1⟩ 0 0, .ptr ⟨1, 5, 0, 1⟩ 0 0] [own, oM] (some (.ifc 23 (vi k))) =
      some [((own.upd 4 500 ⟨(own.get 4 500).g + 1, 0, true, false, []⟩).upd 4 0 ⟨1, 54, false, false, [.agg [.rs ⟨1, 4, 500, (own.get 4 500).g + 1⟩ 0 0 0, vi 0]]⟩).upd 5 0 ⟨1, 23, false, false, [vi k]⟩, oM] := by
  refine evD_of (X := X) (fn := Tryd.f140) Tryd.func140 rfl rfl ⟨by decide +kernel, Nat.le_of_ble_eq_true rfl, rfl, co140⟩ rfl ?_
  have hm : (enter [V.ptr ⟨1, 4, 0, 1⟩ 0 0, V.ptr ⟨1, 5, 0, 1⟩ 0 0] [own, oM]).m = ⟨.nil, [own, oM]⟩ := rfl
  have hd : (enter [V.ptr ⟨1, 4, 0, 1⟩ 0 0, V.ptr ⟨1, 5, 0, 1⟩ 0 0] [own, oM]).dfs = [] := rfl
  have t0 : (enter [V.ptr ⟨1, 4, 0, 1⟩ 0 0, V.ptr ⟨1, 5, 0, 1⟩ 0 0] [own, oM]).t.get 0 = .ptr ⟨1, 4, 0, 1⟩ 0 0 := rfl
  have t1 : (enter [V.ptr ⟨1, 4, 0, 1⟩ 0 0, V.ptr ⟨1, 5, 0, 1⟩ 0 0] [own, oM]).t.get 1 = .ptr ⟨1, 5, 0, 1⟩ 0 0 := rfl
  generalize enter [V.ptr ⟨1, 4, 0, 1⟩ 0 0, V.ptr ⟨1, 5, 0, 1⟩ 0 0] [own, oM] = s at *
  have h4' : (⟨.nil, [own, oM]⟩ : Mem).row ⟨1, 4, 0, 1⟩ = some ⟨1, 54, false, false, [x4]⟩ := by rw [row_outer _ _ _ _ (by simp), h4]
  have h5' : (⟨.nil, [own, oM]⟩ : Mem).row ⟨1, 5, 0, 1⟩ = some ⟨1, 23, false, false, [x5]⟩ := by rw [row_outer _ _ _ _ (by simp), h5]
  refine WL_k ?_
  intro K hK
  simp (maxSteps := 2000000) (disch := omega) only [SA, ofValue, ofCell, bin, intBin, un, idx, Go.Ev.builtin, calleeOf, V.isNilS, V.depthOk, depth1, V.ok1, V.isAgg, V.cells, isConst, Nat.reduceBEq, Nat.reduceEqDiff, ↓reduceIte, Nat.reduceLeDiff, Nat.reduceAdd, Nat.reduceMul, Nat.reduceSub, Nat.reduceLT, Int.reduceAdd, Int.reduceSub, Int.reduceMul, Int.reduceLT, Int.reduceLE, Int.reduceToNat, Int.reduceNeg, reduceIte, reduceCtorEq, SPx, hm]
  refine hK _ _ ⟨rfl, ?_⟩
  clear hK K
  repeat (first
    | with_reducible first | refine W_seq ?_ | refine W_skip ?_ | refine W_label ?_ | refine W_ret ?_ | refine W_exit ?_ | refine W_block ?_ | refine thenI ?_ | refine thenRet ?_ | refine thenExit ?_ | refine blockRet ?_ | refine blockI ?_ | refine blockExit ?_ | refine blockExitNe rfl ?_
    | (with_reducible refine W_region_k ?_
       intro K hK
       simp (maxSteps := 2000000) (disch := omega) only [SA, ofValue, ofCell, bin, intBin, un, idx, Go.Ev.builtin, calleeOf, V.isNilS, V.depthOk, depth1, V.ok1, V.isAgg, V.cells, isConst, Nat.reduceBEq, Nat.reduceEqDiff, ↓reduceIte, Nat.reduceLeDiff, Nat.reduceAdd, Nat.reduceMul, Nat.reduceSub, Nat.reduceLT, Int.reduceAdd, Int.reduceSub, Int.reduceMul, Int.reduceLT, Int.reduceLE, Int.reduceToNat, Int.reduceNeg, reduceIte, reduceCtorEq, SPx, bin, eqOk, eqT, isConst, Bool.or_true, Option.map_some]
       refine hK _ _ ?_
       clear hK K)
    | (refine W_draw_k (by decide +kernel) ?_
       intro K hK
       simp (maxSteps := 2000000) (disch := omega) only [SA, ofValue, ofCell, bin, intBin, un, idx, Go.Ev.builtin, calleeOf, V.isNilS, V.depthOk, depth1, V.ok1, V.isAgg, V.cells, isConst, Nat.reduceBEq, Nat.reduceEqDiff, ↓reduceIte, Nat.reduceLeDiff, Nat.reduceAdd, Nat.reduceMul, Nat.reduceSub, Nat.reduceLT, Int.reduceAdd, Int.reduceSub, Int.reduceMul, Int.reduceLT, Int.reduceLE, Int.reduceToNat, Int.reduceNeg, reduceIte, reduceCtorEq, SD, SPx, bin, eqOk, eqT, isConst, Bool.or_true, Option.map_some]
       repeat (refine ⟨by decide +kernel, ?_⟩)
       refine hK _ _ ?_
       clear hK K))
  refine cnd (fun h => ?_) (fun h => ?_)
  · refine gPAS (aI @t0 <|aI @t1 <|aI @h4' <|aI @h5' <|aI @co133 <|aI @sr133 <|aI ((P133 k).iffx) <|aI @Mem.rows_new <|aI @Mem.rows_lit <|aI @rowsOf_agg3 <|aI @rows1_rs <|aI @rows1_int <|@rows1_sl) ?_
    refine ⟨.inl rfl, by simp [hd], ?_⟩
    simp [Mem.new, Mem.set, outSet]
  · simp at h
theorem fin118 {oM : Go.Ev.Rows} {s : St} {es : List Nat} {sh k : Int} (hd : s.dfs = [(140, [.ptr ⟨1, 4, 0, 1⟩ 0 0, .ptr ⟨1, 5, 0, 1⟩ 0 0])]) (ho : s.m.out = [oM]) (h4 : s.t.get 4 = .ptr ⟨1, 4, 0, 1⟩ 0 0) (h5 : s.t.get 5 = .ptr ⟨1, 5, 0, 1⟩ 0 0)
    (r4 : s.m.row ⟨1, 4, 0, 1⟩ = some ⟨1, 54, false, false, [.agg [.sl (nats es), vi sh]]⟩) (r5 : s.m.row ⟨1, 5, 0, 1⟩ = some ⟨1, 23, false, false, [vi k]⟩) :
    finQ X Tryd.f118 (.ret (.tup [.agg [.sl (nats es), vi sh], vi k]), [oM]) .ret s := by
  obtain ⟨t, ⟨own, out⟩, dfs⟩ := s
  dsimp only at hd ho h4 h5 r4 r5
  subst ho
  refine fin_ret1 (own := own) (vs := [.agg [.sl (nats es), vi sh], vi k]) hd (D140n own oM) ?_ rfl rfl
  simp (maxSteps := 2000000) (disch := omega) only [SA, ofValue, ofCell, bin, intBin, un, idx, Go.Ev.builtin, calleeOf, V.isNilS, V.depthOk, depth1, V.ok1, V.isAgg, V.cells, isConst, Nat.reduceBEq, Nat.reduceEqDiff, ↓reduceIte, Nat.reduceLeDiff, Nat.reduceAdd, Nat.reduceMul, Nat.reduceSub, Nat.reduceLT, Int.reduceAdd, Int.reduceSub, Int.reduceMul, Int.reduceLT, Int.reduceLE, Int.reduceToNat, Int.reduceNeg, reduceIte, reduceCtorEq, SPx, Tryd.results118, resVars, resVar, h4, h5, r4, r5]
theorem fin118p {oM : Go.Ev.Rows} {s : St} {x4 x5 : V} {k : Int} (hd : s.dfs = [(140, [.ptr ⟨1, 4, 0, 1⟩ 0 0, .ptr ⟨1, 5, 0, 1⟩ 0 0])]) (ho : s.m.out = [oM]) (h4 : s.t.get 4 = .ptr ⟨1, 4, 0, 1⟩ 0 0) (h5 : s.t.get 5 = .ptr ⟨1, 5, 0, 1⟩ 0 0)
    (r4 : s.m.row ⟨1, 4, 0, 1⟩ = some ⟨1, 54, false, false, [x4]⟩) (r5 : s.m.row ⟨1, 5, 0, 1⟩ = some ⟨1, 23, false, false, [x5]⟩) :
    finQ X Tryd.f118 (.ret (.tup [.agg [.sl [], vi 0], vi k]), [oM]) (.panic (.ifc 23 (vi k))) s := by
  obtain ⟨t, ⟨own, out⟩, dfs⟩ := s
  dsimp only at hd ho h4 h5 r4 r5
  subst ho
  refine fin_panic1 (vs := [.agg [.rs ⟨1, 4, 500, (own.get 4 500).g + 1⟩ 0 0 0, vi 0], vi k]) hd (D140p own oM k x4 x5 r4 r5) ?_ ?_ ?_
  · rw [← set_own _ [oM] 1 5 0 _ rfl, ← set_own _ [oM] 1 4 0 _ rfl, ← set_own _ [oM] 1 4 500 _ rfl]
    simp (maxSteps := 2000000) (disch := omega) only [SA, ofValue, ofCell, bin, intBin, un, idx, Go.Ev.builtin, calleeOf, V.isNilS, V.depthOk, depth1, V.ok1, V.isAgg, V.cells, isConst, Nat.reduceBEq, Nat.reduceEqDiff, ↓reduceIte, Nat.reduceLeDiff, Nat.reduceAdd, Nat.reduceMul, Nat.reduceSub, Nat.reduceLT, Int.reduceAdd, Int.reduceSub, Int.reduceMul, Int.reduceLT, Int.reduceLE, Int.reduceToNat, Int.reduceNeg, reduceIte, reduceCtorEq, SPx, Tryd.results118, resVars, resVar, h4, h5, r4, r5]
  · rw [← set_own _ [oM] 1 5 0 _ rfl, ← set_own _ [oM] 1 4 0 _ rfl, ← set_own _ [oM] 1 4 500 _ rfl]
    simp (maxSteps := 2000000) (disch := omega) only [SA, ofValue, ofCell, bin, intBin, un, idx, Go.Ev.builtin, calleeOf, V.isNilS, V.depthOk, depth1, V.ok1, V.isAgg, V.cells, isConst, Nat.reduceBEq, Nat.reduceEqDiff, ↓reduceIte, Nat.reduceLeDiff, Nat.reduceAdd, Nat.reduceMul, Nat.reduceSub, Nat.reduceLT, Int.reduceAdd, Int.reduceSub, Int.reduceMul, Int.reduceLT, Int.reduceLE, Int.reduceToNat, Int.reduceNeg, reduceIte, reduceCtorEq, SPx, SAx, resOf, X_own, mv_tup, mv2s_cons, mv2s_nil, mv2_int, cut, List.take_zero, List.drop_zero]
  · exact frzR_own (fun r ty off len hm => by
      simp [resOf, leaves, leaves2, V.loose] at hm
      rw [hm.1]; rfl)
theorem M118 (g : FuncId) (cap : List V) (oM : Go.Ev.Rows) (r : Res) (hcap : cap.any V.loose = true) (hco : callOk Tryd.prog g = true) (hsr : scalarRes Tryd.prog g = false) (hg : ∀ own, AnsAt X g cap [own, oM] r)
    (R : Res) (hR : (∃ es sh, r = .ret (.agg [.sl (nats es), vi sh]) ∧ R = .ret (.tup [.agg [.sl (nats es), vi sh], vi 0])) ∨ (∃ k, r = .panic (.ifc 23 (vi k)) ∧ R = .ret (.tup [.agg [.sl [], vi 0], vi k]))) :
    AnsAt X 118 [vi 0, .fn g [] cap] [oM] R := by
  have hne : cap.isEmpty = false := by cases cap with | nil => simp at hcap | cons _ _ => rfl
  refine ⟨rfl, by simp [V.refs, V.loose, hne], fun v hv => ?_, ?_⟩
  · rcases hR with ⟨es, sh, _, rfl⟩ | ⟨k, _, rfl⟩
    · injection hv with hv; subst hv; rfl
    · injection hv with hv; subst hv; rfl
  refine runsAt_of (X := X) (fn := Tryd.f118) Tryd.func118 rfl ⟨by decide +kernel, Nat.le_of_ble_eq_true rfl⟩ ?_
  have hd : (enter [vi 0, V.fn g [] cap] [oM]).dfs = [] := rfl
  have h0 : (enter [vi 0, V.fn g [] cap] [oM]).t.get 0 = vi 0 := rfl
  have h1 : (enter [vi 0, V.fn g [] cap] [oM]).t.get 1 = .fn g [] cap := rfl
  have hm : (enter [vi 0, V.fn g [] cap] [oM]).m = ⟨.nil, [oM]⟩ := rfl
  generalize enter [vi 0, V.fn g [] cap] [oM] = s at *
  refine gPA (aI @h0 <|aI @h1 <|@hm) ?_
  refine cnd (fun h => ?_) (fun h => ?_)
  · simp at h
  refine gPA (aI @h0 <|aI @h1 <|@hm) ?_
  have key : ∀ (m : Mem) (dst : Nat) (K KP : V → Mem → Prop), m.out = [oM] → CallQ X g cap m dst K KP = (match r with | .ret v => K v m | .panic v => KP v m) := by
    intro m dst K KP hmo
    have hh := hg m.own
    rw [← hmo] at hh
    cases r with
    | ret v => exact propext hh.iff
    | panic v => exact propext hh.panics
  with_reducible refine W_region_k ?_
  intro K hK
  simp (maxSteps := 2000000) (disch := omega) only [SA, ofValue, ofCell, bin, intBin, un, idx, Go.Ev.builtin, calleeOf, V.isNilS, V.depthOk, depth1, V.ok1, V.isAgg, V.cells, isConst, Nat.reduceBEq, Nat.reduceEqDiff, ↓reduceIte, Nat.reduceLeDiff, Nat.reduceAdd, Nat.reduceMul, Nat.reduceSub, Nat.reduceLT, Int.reduceAdd, Int.reduceSub, Int.reduceMul, Int.reduceLT, Int.reduceLE, Int.reduceToNat, Int.reduceNeg, reduceIte, reduceCtorEq, SPx, SAx, h0, h1, hm, hd, hco, hsr]
  rw [key _ _ _ _ rfl]
  rcases hR with ⟨es, sh, rfl, rfl⟩ | ⟨k, rfl, rfl⟩
  · simp (maxSteps := 2000000) (disch := omega) only [SA, ofValue, ofCell, bin, intBin, un, idx, Go.Ev.builtin, calleeOf, V.isNilS, V.depthOk, depth1, V.ok1, V.isAgg, V.cells, isConst, Nat.reduceBEq, Nat.reduceEqDiff, ↓reduceIte, Nat.reduceLeDiff, Nat.reduceAdd, Nat.reduceMul, Nat.reduceSub, Nat.reduceLT, Int.reduceAdd, Int.reduceSub, Int.reduceMul, Int.reduceLT, Int.reduceLE, Int.reduceToNat, Int.reduceNeg, reduceIte, reduceCtorEq, SPx, SAx, SSx, appendTo, elemsOf]
    refine hK _ _ ?_
    clear hK K
    refine gP @Nat.zero_add ?_
    refine fin118 (es := es) (sh := sh) (k := 0) ?_ ?_ ?_ ?_ ?_ ?_
    all_goals (try refine f0 @hd ?_);all_goals try exact True.intro
    all_goals first | rfl | simp [Mem.new, Mem.set]
  · simp (maxSteps := 2000000) (disch := omega) only [SA, ofValue, ofCell, bin, intBin, un, idx, Go.Ev.builtin, calleeOf, V.isNilS, V.depthOk, depth1, V.ok1, V.isAgg, V.cells, isConst, Nat.reduceBEq, Nat.reduceEqDiff, ↓reduceIte, Nat.reduceLeDiff, Nat.reduceAdd, Nat.reduceMul, Nat.reduceSub, Nat.reduceLT, Int.reduceAdd, Int.reduceSub, Int.reduceMul, Int.reduceLT, Int.reduceLE, Int.reduceToNat, Int.reduceNeg, reduceIte, reduceCtorEq, SPx, SAx, SSx, appendTo, elemsOf]
    refine hK _ _ ?_
    clear hK K
    refine gP @Nat.zero_add ?_
    refine fin118p (k := k) (x4 := .agg [.rs ⟨1, 4, 1, 1⟩ 0 0 0, vi 0]) (x5 := vi 0) ?_ ?_ ?_ ?_ ?_ ?_
    all_goals (try refine f0 @hd ?_);all_goals try exact True.intro
    all_goals first | rfl | simp [Mem.new, Mem.set]
theorem M118e (e : Int) (he : e ≠ 0) (g : FuncId) (cap : List V) (oM : Go.Ev.Rows) (hcap : cap.any V.loose = true) : AnsAt X 118 [vi e, .fn g [] cap] [oM] (.ret (.tup [.agg [.sl [], vi 0], vi e])) := by
  have hne : cap.isEmpty = false := by cases cap with | nil => simp at hcap | cons _ _ => rfl
  refine ⟨rfl, by simp [V.refs, V.loose, hne], fun v hv => ?_, ?_⟩
  · injection hv with hv; subst hv; rfl
  refine runsAt_of (X := X) (fn := Tryd.f118) Tryd.func118 rfl ⟨by decide +kernel, Nat.le_of_ble_eq_true rfl⟩ ?_
  have hd : (enter [vi e, V.fn g [] cap] [oM]).dfs = [] := rfl
  have h0 : (enter [vi e, V.fn g [] cap] [oM]).t.get 0 = vi e := rfl
  have h1 : (enter [vi e, V.fn g [] cap] [oM]).t.get 1 = .fn g [] cap := rfl
  have hm : (enter [vi e, V.fn g [] cap] [oM]).m = ⟨.nil, [oM]⟩ := rfl
  generalize enter [vi e, V.fn g [] cap] [oM] = s at *
  refine gPA (aI @h0 <|aI @h1 <|@hm) ?_
  refine cnd (fun h => ?_) (fun h => ?_)
  · refine gPA (aI @h0 <|aI @h1 <|@hm) ?_
    refine fin_ret (X := X) (fn := Tryd.f118) (vs := [.agg [.rs ⟨1, 4, 1, 1⟩ 0 0 0, vi 0], vi e]) hd ?_ ?_ ?_
    · simp (maxSteps := 2000000) (disch := omega) only [SA, ofValue, ofCell, bin, intBin, un, idx, Go.Ev.builtin, calleeOf, V.isNilS, V.depthOk, depth1, V.ok1, V.isAgg, V.cells, isConst, Nat.reduceBEq, Nat.reduceEqDiff, ↓reduceIte, Nat.reduceLeDiff, Nat.reduceAdd, Nat.reduceMul, Nat.reduceSub, Nat.reduceLT, Int.reduceAdd, Int.reduceSub, Int.reduceMul, Int.reduceLT, Int.reduceLE, Int.reduceToNat, Int.reduceNeg, reduceIte, reduceCtorEq, SPx, SAx, Tryd.results118, resVars, resVar]
    · simp (maxSteps := 2000000) (disch := omega) only [SA, ofValue, ofCell, bin, intBin, un, idx, Go.Ev.builtin, calleeOf, V.isNilS, V.depthOk, depth1, V.ok1, V.isAgg, V.cells, isConst, Nat.reduceBEq, Nat.reduceEqDiff, ↓reduceIte, Nat.reduceLeDiff, Nat.reduceAdd, Nat.reduceMul, Nat.reduceSub, Nat.reduceLT, Int.reduceAdd, Int.reduceSub, Int.reduceMul, Int.reduceLT, Int.reduceLE, Int.reduceToNat, Int.reduceNeg, reduceIte, reduceCtorEq, SPx, SAx, resOf, X_own, mv_tup, mv2s_cons, mv2s_nil, mv2_int, cut, List.take_zero, List.drop_zero]
    · refine (frzR_own (fun r ty off len hm => ?_)).trans ?_
      · simp [resOf, leaves, leaves2, V.loose] at hm
        rw [hm.1]; rfl
      · rfl
  · exact absurd (by simpa using h) he
end Go.Proofs.YtpocekfifokndaaDoor
namespace Go.Proofs.YtpocekfifokndaaDoor
open Go Go.Ev Go.Pl
set_option maxRecDepth 100000
set_option maxHeartbeats 4000000
theorem fr_bounds {N D i j k : Nat} (hN : N ≤ 1099511627776) (hD : D ≤ 1048576) (h : D = 2 ^ i * 3 ^ j * 5 ^ k) : i < 21 ∧ j < 13 ∧ k < 9 ∧ N * invW i j k < 60 ^ 16 := by
  have p2 : 0 < 2 ^ i := Nat.pow_pos (by decide)
  have p3 : 0 < 3 ^ j := Nat.pow_pos (by decide)
  have p5 : 0 < 5 ^ k := Nat.pow_pos (by decide)
  have d2 : 2 ^ i ≤ D := by rw [h, Nat.mul_assoc]; exact Nat.le_mul_of_pos_right _ (Nat.mul_pos p3 p5)
  have d3 : 3 ^ j ≤ D := by rw [h, Nat.mul_comm (2 ^ i), Nat.mul_assoc]; exact Nat.le_mul_of_pos_right _ (Nat.mul_pos p2 p5)
  have d5 : 5 ^ k ≤ D := by rw [h]; exact Nat.le_mul_of_pos_left _ (Nat.mul_pos p2 p3)
  have bi : i < 21 := pow_lt_of (b := 2) (N := D) (by decide) d2 (Nat.lt_of_le_of_lt hD (by decide))
  have bj : j < 13 := pow_lt_of (b := 3) (N := D) (by decide) d3 (Nat.lt_of_le_of_lt hD (by decide))
  have bk : k < 9 := pow_lt_of (b := 5) (N := D) (by decide) d5 (Nat.lt_of_le_of_lt hD (by decide))
  refine ⟨bi, bj, bk, ?_⟩
  clear d2 d3 d5 p2 p3 p5
  have hfin : ∀ i, i < 21 → ∀ j, j < 13 → ∀ k, k < 9 → 2 ^ i * 3 ^ j * 5 ^ k ≤ 1048576 → 1099511627776 * invW i j k < 60 ^ 16 := by decide +kernel
  exact Nat.lt_of_le_of_lt (Nat.mul_le_mul_right _ hN) (hfin i bi j bj k bk (h ▸ hD))
theorem placeRes_small {M : Nat} (hp : 0 < M) (hM : M < 60 ^ 16) : placeRes (M * 60 ^ 72) = .ret (.agg [.sl (nats (digB M)), vi (vz M)]) := by
  have h := placeRes_inv hp (Nat.le_trans (Nat.le_of_lt hM) (Nat.pow_le_pow_right (by decide) (by decide)))
  have h1 := canL_length_le.2 hM
  have h2 := canL_len_core M
  rw [if_neg (by omega)] at h
  exact h
theorem P124c (N D i j k W M L K : Nat) (q1 : Ans X 90 [vn i, vn j, vn k] (.ret (.tup [wv W, vn K]))) (q2 : Ans X 115 [wv W, vn N] (.ret (wv M))) (q3 : Ans X 81 [wv M] (.ret (.agg [.sl (nats (digB L)), vi (vz L)])))
    (hwr : V.int .i64 (wr .i64 ((vz L : Int) - (K : Int))) = vi ((vz L : Int) - K)) (o1 oM : Go.Ev.Rows)
    (hA : (⟨oM, []⟩ : Mem).row ⟨0, 4, 0, 1⟩ = some ⟨1, 22, false, false, [.sl (nats [i, j, k])]⟩) (hB : (⟨oM, []⟩ : Mem).row ⟨0, 1, 0, 1⟩ = some ⟨1, 76, false, false, [.agg [vn N, vn D]]⟩) :
    AnsAt X 124 [.ptr ⟨0, 4, 0, 1⟩ 0 0, .ptr ⟨0, 1, 0, 1⟩ 0 0] [o1, oM] (.ret (.agg [.sl (nats (digB L)), vi ((vz L : Int) - K)])) := by
  refine ⟨rfl, rfl, fun v hv => ?_, ?_⟩
  · injection hv with hv; subst hv; rfl
  refine runsAt_of (X := X) (fn := Tryd.f124) Tryd.func124 rfl ⟨by decide +kernel, Nat.le_of_ble_eq_true rfl⟩ ?_
  have hd : (enter [V.ptr ⟨0, 4, 0, 1⟩ 0 0, V.ptr ⟨0, 1, 0, 1⟩ 0 0] [o1, oM]).dfs = [] := rfl
  have h0 : (enter [V.ptr ⟨0, 4, 0, 1⟩ 0 0, V.ptr ⟨0, 1, 0, 1⟩ 0 0] [o1, oM]).t.get 0 = .ptr ⟨0, 4, 0, 1⟩ 0 0 := rfl
  have h1 : (enter [V.ptr ⟨0, 4, 0, 1⟩ 0 0, V.ptr ⟨0, 1, 0, 1⟩ 0 0] [o1, oM]).t.get 1 = .ptr ⟨0, 1, 0, 1⟩ 0 0 := rfl
  have hm : (enter [V.ptr ⟨0, 4, 0, 1⟩ 0 0, V.ptr ⟨0, 1, 0, 1⟩ 0 0] [o1, oM]).m = ⟨.nil, [o1, oM]⟩ := rfl
  generalize enter [V.ptr ⟨0, 4, 0, 1⟩ 0 0, V.ptr ⟨0, 1, 0, 1⟩ 0 0] [o1, oM] = s at *
  have hA' : (⟨.nil, [o1, oM]⟩ : Mem).row ⟨0, 4, 0, 1⟩ = some ⟨1, 22, false, false, [.sl (nats [i, j, k])]⟩ := by rw [row_outer _ _ _ _ (by simp), row_outer _ _ _ _ (by simp), hA]
  have hB' : (⟨.nil, [o1, oM]⟩ : Mem).row ⟨0, 1, 0, 1⟩ = some ⟨1, 76, false, false, [.agg [vn N, vn D]]⟩ := by rw [row_outer _ _ _ _ (by simp), row_outer _ _ _ _ (by simp), hB]
  have n0 : (nats [i, j, k])[0]? = some (vn i) := rfl
  have n1 : (nats [i, j, k])[1]? = some (vn j) := rfl
  have n2 : (nats [i, j, k])[2]? = some (vn k) := rfl
  refine gPASW (aI @h0 <|aI @h1 <|aI @hm <|aI @hA' <|aI @hB' <|aI @n0 <|aI @n1 <|aI @n2 <|aI @co90 <|aI @co81 <|aI @co115 <|aI @sr90 <|aI @sr81 <|aI @sr115 <|aI @q1.iffx <|aI @q2.iffx <|aI @q3.iffx <|@hwr) ?_
  refine fin_ret (X := X) (fn := Tryd.f124) (vs := [.agg [.sl (nats (digB L)), vi ((vz L : Int) - K)]]) hd ?_ rfl rfl
  simp (maxSteps := 2000000) (disch := omega) only [SA, ofValue, ofCell, bin, intBin, un, idx, Go.Ev.builtin, calleeOf, V.isNilS, V.depthOk, depth1, V.ok1, V.isAgg, V.cells, isConst, Nat.reduceBEq, Nat.reduceEqDiff, ↓reduceIte, Nat.reduceLeDiff, Nat.reduceAdd, Nat.reduceMul, Nat.reduceSub, Nat.reduceLT, Int.reduceAdd, Int.reduceSub, Int.reduceMul, Int.reduceLT, Int.reduceLE, Int.reduceToNat, Int.reduceNeg, reduceIte, reduceCtorEq, SPx, SAx, Tryd.results124, resVars, resVar]
theorem P124 (N D i j k : Nat) (hN0 : 0 < N) (hN : N ≤ 1099511627776) (hi : i < 21) (hj : j < 13) (hk : k < 9) (hM : N * invW i j k < 60 ^ 16) (o1 oM : Go.Ev.Rows)
    (hA : (⟨oM, []⟩ : Mem).row ⟨0, 4, 0, 1⟩ = some ⟨1, 22, false, false, [.sl (nats [i, j, k])]⟩) (hB : (⟨oM, []⟩ : Mem).row ⟨0, 1, 0, 1⟩ = some ⟨1, 76, false, false, [.agg [vn N, vn D]]⟩) :
    AnsAt X 124 [.ptr ⟨0, 4, 0, 1⟩ 0 0, .ptr ⟨0, 1, 0, 1⟩ 0 0] [o1, oM] (.ret (.agg [.sl (nats (digB (N * invW i j k))), vi ((vz (N * invW i j k) : Int) - invK i j k)])) := by
  have hW : invW i j k < 60 ^ 16 := Nat.lt_of_le_of_lt (Nat.le_mul_of_pos_left _ hN0) hM
  have q1 := P90 i j k (by omega) (by omega) (by omega) (Nat.lt_trans hW (by decide))
  have hb1 : invW i j k * 60 ^ 72 < 60 ^ 168 := Nat.lt_of_lt_of_le (Nat.mul_lt_mul_of_pos_right hW (by decide)) (by decide)
  have hb2 : N * invW i j k * 60 ^ 72 < 60 ^ 168 := Nat.lt_of_lt_of_le (Nat.mul_lt_mul_of_pos_right hM (by decide)) (by decide)
  have hcm : invW i j k * 60 ^ 72 * N = N * invW i j k * 60 ^ 72 := by rw [Nat.mul_right_comm, Nat.mul_comm N]
  have q2 := P115 (invW i j k * 60 ^ 72) N hb1 (by omega)
  rw [hcm, if_pos hb2] at q2
  have q3 := P81 (N * invW i j k * 60 ^ 72) hb2
  rw [placeRes_small (Nat.mul_pos hN0 (invW_pos i j k)) hM] at q3
  have hv : vz (N * invW i j k) < 16 := vz_lt (Nat.mul_pos hN0 (invW_pos i j k)) hM
  have hKb : invK i j k < 21 := by unfold invK; omega
  have hwr : V.int .i64 (wr .i64 ((vz (N * invW i j k) : Int) - (invK i j k : Int))) = vi ((vz (N * invW i j k) : Int) - invK i j k) := by rw [wr_i64 (by omega) (by omega)]
  exact P124c N D i j k _ _ _ _ q1 q2 q3 hwr o1 oM hA hB
def frS (N D : Int) : List Nat × Int × Int :=
  if isRat N D = false ∨ N < 0 then ([], 0, 2) else
  if (splitF [2, 3, 5] D.toNat).2 ≠ 1 then ([], 0, 31) else
  if N = 0 then ([], 0, 0) else
  (digB (N.toNat * invW (mult 2 D.toNat) (mult 3 (rem 2 D.toNat)) (mult 5 (rem 3 (rem 2 D.toNat)))),
    (vz (N.toNat * invW (mult 2 D.toNat) (mult 3 (rem 2 D.toNat)) (mult 5 (rem 3 (rem 2 D.toNat)))) : Int) - invK (mult 2 D.toNat) (mult 3 (rem 2 D.toNat)) (mult 5 (rem 3 (rem 2 D.toNat))), 0)
theorem split_eq {N : Nat} (h0 : 0 < N) (hs : (splitF [2, 3, 5] N).2 = 1) : N = 2 ^ mult 2 N * 3 ^ mult 3 (rem 2 N) * 5 ^ mult 5 (rem 3 (rem 2 N)) := by
  obtain ⟨e2, p2, _⟩ := rem_spec (p := 2) (by decide) h0
  obtain ⟨e3, p3, _⟩ := rem_spec (p := 3) (by decide) p2
  obtain ⟨e5, p5, _⟩ := rem_spec (p := 5) (by decide) p3
  simp only [splitF] at hs
  rw [hs, Nat.one_mul] at e5
  rw [← Nat.mul_comm (5 ^ _), ← e5, Nat.mul_comm (2 ^ _), ← Nat.mul_assoc, ← e3]
  exact e2
theorem P63 (N D : Int) : Ans X 63 [.agg [vi N, vi D]] (.ret (.tup [.agg [.sl (nats (frS N D).1), vi (frS N D).2.1], vi (frS N D).2.2])) := by
  refine call_of_X (fn := Tryd.f63) 1 Tryd.func63 rfl (by decide +kernel) rfl ?_ ?_ ?_ ?_
  · rfl
  · intro h; exact absurd h (by rw [sr63]; decide)
  · intro v hv; injection hv with hv; subst hv; rfl
  intro s hs hd ho
  have hm : s.m = ⟨.nil, []⟩ := by subst hs; rfl
  have h0 : s.t.get 0 = .agg [vi N, vi D] := by subst hs; rfl
  clear hs
  by_cases c1 : isRat N D = false
  · refine gPA (aI @h0 <|aI @hm <|aI @co123 <|aI @sr123 <|aI ((P123 N D).iffx) <|@c1) ?_
    refine cnd (fun h => ?_) (fun h => ?_)
    · refine gPA @hm ?_
      refine rPAS hd (aI @Tryd.results63 <|@hm) ?_
      try exact True.intro
      rw [frS, if_pos (.inl c1)]; rfl
    · simp at h
  have c1' : isRat N D = true := by simpa using c1
  by_cases c2 : N < 0
  · refine gPA (aI @h0 <|aI @hm <|aI @co123 <|aI @sr123 <|aI ((P123 N D).iffx) <|aI @c1' <|@c2) ?_
    refine cnd (fun h => ?_) (fun h => ?_)
    · refine gPA @hm ?_
      refine rPAS hd (aI @Tryd.results63 <|@hm) ?_
      try exact True.intro
      rw [frS, if_pos (.inr c2)]; rfl
    · simp at h
  rw [frS, if_neg (fun e => e.elim c1 c2)]
  have hb : 1 ≤ D ∧ D ≤ 1048576 ∧ N ≤ 1099511627776 := by
    have := of_decide_eq_true c1'
    omega
  obtain ⟨b1, b2, b3⟩ := hb
  refine gPA (aI @h0 <|aI @hm <|aI @co123 <|aI @sr123 <|aI ((P123 N D).iffx) <|aI @c1' <|@c2) ?_
  refine cnd (fun h => ?_) (fun h => ?_)
  · simp at h
  obtain ⟨n, rfl⟩ : ∃ n : Nat, N = n := ⟨N.toNat, by omega⟩
  obtain ⟨d, rfl⟩ : ∃ d : Nat, D = d := ⟨D.toNat, by omega⟩
  rw [Int.toNat_natCast, Int.toNat_natCast]
  have hd0 : 0 < d := by omega
  have q1 := P88 d (by omega)
  have q2 : Ans X 87 [wv (d * 60 ^ 72), .sl [vi 2, vi 3, vi 5]] _ := P87 [2, 3, 5] d (by intro p hp; simp at hp; omega) (by decide) hd0 (lt_pow_mono (j := 90) (i := 16) (by omega) (by decide))
  have q3 : Ans X 88 [vi 1] (.ret (wv (1 * 60 ^ 72))) := P88 1 (by decide)
  have hR : (splitF [2, 3, 5] d).2 ≤ d := by
    simp only [splitF]
    exact Nat.le_trans (rem_le _ _) (Nat.le_trans (rem_le _ _) (rem_le _ _))
  have hT : (splitF [2, 3, 5] d).1 = [mult 2 d, mult 3 (rem 2 d), mult 5 (rem 3 (rem 2 d))] := rfl
  rw [hT] at q2
  have hRb : (splitF [2, 3, 5] d).2 < 60 ^ 16 := Nat.lt_of_le_of_lt hR (by omega)
  have hsp := split_eq hd0
  generalize hRe : (splitF [2, 3, 5] d).2 = R at q2 hRb hsp
  have hE : allEq (dig (R * 60 ^ 72)) (dig (1 * 60 ^ 72)) 168 0 = decide (R = 1) := by
    rw [allEq_dig (by
      calc R * 60 ^ 72 < 60 ^ 16 * 60 ^ 72 := Nat.mul_lt_mul_of_pos_right hRb (by decide)
        _ ≤ 60 ^ 168 := by decide) (by decide)]
    rw [decide_eq_decide, Nat.one_mul]
    constructor
    · intro e
      have e' : R * 60 ^ 72 = 1 * 60 ^ 72 := by rw [Nat.one_mul]; exact e
      exact Nat.eq_of_mul_eq_mul_right (pow_pos 72) e'
    · rintro rfl; rw [Nat.one_mul]
  rw [show (1 * 60 ^ 72 : Nat) = 60 ^ 72 from Nat.one_mul _] at hE q3
  clear hR h c1 c1' c2 hRb
  refine gPASW (aI @h0 <|aI @hm <|aI @rep3 <|aI @cut3 <|aI @co87 <|aI @sr87 <|aI @co88 <|aI @sr88 <|aI @q1.iffx <|aI @q2.iffx <|aI @q3.iffx <|aI @eqOk100 <|aI @eqT100 <|@hE) ?_
  refine cnd (fun h => ?_) (fun h => ?_)
  · have h : R ≠ 1 := by simpa using h
    refine gPA @hm ?_
    refine rPAS hd (aI @Tryd.results63 <|@hm) ?_
    try exact True.intro
    rfl
  have h : R = 1 := by simpa using h
  rw [if_neg (fun e => e h)]
  have hsp := hsp h
  clear hE q1 q2 q3 hRe h
  refine gPA @hm ?_
  refine cnd (fun h => ?_) (fun h => ?_)
  · have h : n = 0 := by have h' := eq_of_beq h; omega
    refine gPA @hm ?_
    refine rPAS hd (aI @Tryd.results63 <|@hm) ?_
    try exact True.intro
    rfl
  have hn0 : 0 < n := by have h' := ne_of_beq_false h; omega
  rw [if_neg (by omega)]
  generalize mult 2 d = i at hsp ⊢
  generalize mult 3 (rem 2 d) = j at hsp ⊢
  generalize mult 5 (rem 3 (rem 2 d)) = k at hsp ⊢
  obtain ⟨f1, f2, f3, f4⟩ := fr_bounds (N := n) (by omega) (by omega : d ≤ 1048576) hsp
  have key : ∀ (m : Mem) (dst : Nat) (K KP : V → Mem → Prop), m.out = [] → m.row ⟨0, 4, 0, 1⟩ = some ⟨1, 22, false, false, [.sl (nats [i, j, k])]⟩ → m.row ⟨0, 1, 0, 1⟩ = some ⟨1, 76, false, false, [.agg [vn n, vn d]]⟩ →
      (CallQ X 118 [vi 0, .fn 124 [] [.ptr ⟨0, 4, 0, 1⟩ 0 0, .ptr ⟨0, 1, 0, 1⟩ 0 0]] m dst K KP ↔ K (.tup [.agg [.sl (nats (digB (n * invW i j k))), vi ((vz (n * invW i j k) : Int) - invK i j k)], vi 0]) m) := by
    rintro ⟨own, out⟩ dst K KP ho r2 r3
    dsimp only at ho
    subst ho
    exact AnsAt.iff (m := ⟨own, []⟩) (M118 124 _ own _ rfl co124 sr124 (fun o1 => P124 n d i j k hn0 (by omega) f1 f2 f3 f4 o1 own r2 r3) _ (.inl ⟨_, _, rfl, rfl⟩))
  clear h hsp f1 f2 f3 f4 b1 b2 b3 hn0 hd0
  refine g0 @Nat.zero_add ?_
  with_reducible refine W_region_k ?_
  intro K hK
  simp (maxSteps := 2000000) (disch := omega) only [SA, ofValue, ofCell, bin, intBin, un, idx, Go.Ev.builtin, calleeOf, V.isNilS, V.depthOk, depth1, V.ok1, V.isAgg, V.cells, isConst, Nat.reduceBEq, Nat.reduceEqDiff, ↓reduceIte, Nat.reduceLeDiff, Nat.reduceAdd, Nat.reduceMul, Nat.reduceSub, Nat.reduceLT, Int.reduceAdd, Int.reduceSub, Int.reduceMul, Int.reduceLT, Int.reduceLE, Int.reduceToNat, Int.reduceNeg, reduceIte, reduceCtorEq, SPx, SAx, hm, co118, sr118]
  rw [key _ _ _ _ rfl (by simp [Mem.row_new, Mem.row_setW, Mem.new_out, Mem.gen_new, Mem.gen_nil, Mem.set_out]) (by simp [Mem.row_new, Mem.row_setW, Mem.new_out, Mem.gen_new, Mem.gen_nil, Mem.set_out])]
  simp (maxSteps := 2000000) (disch := omega) only [SA, ofValue, ofCell, bin, intBin, un, idx, Go.Ev.builtin, calleeOf, V.isNilS, V.depthOk, depth1, V.ok1, V.isAgg, V.cells, isConst, Nat.reduceBEq, Nat.reduceEqDiff, ↓reduceIte, Nat.reduceLeDiff, Nat.reduceAdd, Nat.reduceMul, Nat.reduceSub, Nat.reduceLT, Int.reduceAdd, Int.reduceSub, Int.reduceMul, Int.reduceLT, Int.reduceLE, Int.reduceToNat, Int.reduceNeg, reduceIte, reduceCtorEq, SPx, SAx]
  refine hK _ _ ?_
  clear hK K
  refine gP @Nat.zero_add ?_
  refine rPAS hd @Tryd.results63 ?_
  try exact True.intro
end Go.Proofs.YtpocekfifokndaaDoor
namespace Go.Pl
theorem digB_num {l : List Nat} (h : ∀ d ∈ l, d < 60) (hf : l.head? ≠ some 0) (hl : l.getLast? ≠ some 0) : digB (numL l.reverse) = l := by
  have hr : ∀ d ∈ l.reverse, d < 60 := fun d hd => h d (List.mem_reverse.1 hd)
  have hc : canL (numL l.reverse) = l.reverse := canL_num hr (by rw [List.getLast?_reverse]; exact hf)
  have hv : vz (numL l.reverse) = 0 := by
    rw [vz, dif_neg]
    rintro ⟨h0, hp⟩
    have hd := num_dig hr 0
    rw [dig, Nat.pow_zero, Nat.div_one, h0] at hd
    cases hx : l.getLast? with
    | none => rw [List.getLast?_eq_none_iff] at hx; subst hx; simp [numL] at hp
    | some x =>
      have hx2 : l.reverse[0]? = some x := by rw [← List.head?_eq_getElem?, List.head?_reverse, hx]
      rw [List.getD_eq_getElem?_getD, hx2] at hd
      exact hl (by rw [hx]; exact congrArg some hd.symm)
  rw [digB, core, hv, Nat.pow_zero, Nat.div_one, hc, List.reverse_reverse]
theorem vz_num {l : List Nat} (h : ∀ d ∈ l, d < 60) (hl : l.getLast? ≠ some 0) : vz (numL l.reverse) = 0 := by
  have hr : ∀ d ∈ l.reverse, d < 60 := fun d hd => h d (List.mem_reverse.1 hd)
  rw [vz, dif_neg]
  rintro ⟨h0, hp⟩
  have hd := num_dig hr 0
  rw [dig, Nat.pow_zero, Nat.div_one, h0] at hd
  cases hx : l.getLast? with
  | none => rw [List.getLast?_eq_none_iff] at hx; subst hx; simp [numL] at hp
  | some x =>
    have hx2 : l.reverse[0]? = some x := by rw [← List.head?_eq_getElem?, List.head?_reverse, hx]
    rw [List.getD_eq_getElem?_getD, hx2] at hd
    exact hl (by rw [hx]; exact congrArg some hd.symm)
theorem mult_pow {p M : Nat} (hp : 1 < p) (hM : M % p ≠ 0) : ∀ k, mult p (M * p ^ k) = k ∧ rem p (M * p ^ k) = M
  | 0 => by rw [Nat.pow_zero, Nat.mul_one]; exact ⟨mult_no hM, rem_no hM⟩
  | k + 1 => by
    have hp0 : 0 < p := by omega
    have hM0 : 0 < M := by
      rcases Nat.eq_zero_or_pos M with rfl | h
      · simp at hM
      · exact h
    have e : M * p ^ (k + 1) = p * (M * p ^ k) := by rw [Nat.pow_succ, ← Nat.mul_assoc, Nat.mul_comm]
    have h1 : M * p ^ (k + 1) % p = 0 := by rw [e]; exact Nat.mul_mod_right _ _
    have h2 : M * p ^ (k + 1) / p = M * p ^ k := by rw [e]; exact Nat.mul_div_cancel_left _ hp0
    have h3 : 0 < M * p ^ (k + 1) := Nat.mul_pos hM0 (Nat.pow_pos hp0)
    obtain ⟨i1, i2⟩ := mult_pow hp hM k
    exact ⟨by rw [mult_yes hp h3 h1, h2, i1], by rw [rem_yes hp h3 h1, h2, i2]⟩
end Go.Pl
namespace Go.Proofs.YtpocekfifokndaaDoor
open Go Go.Ev Go.Pl
set_option maxRecDepth 100000
set_option maxHeartbeats 4000000
theorem w34a : Ans X 34 [.str [49, 58, 48, 58, 51, 48]] (.ret (.tup [.sl [vi 1, vi 0, vi 30], vi 0, vi 0])) := by
  have h := P34 [49, 58, 48, 58, 51, 48] (by decide)
  rw [show parseS [49, 58, 48, 58, 51, 48] = ([1, 0, 30], 0, 0) by decide +kernel] at h
  exact h
theorem w34b : Ans X 34 [.str [49, 58, 54, 48]] (.ret (.tup [.sl [], vi 2, vi 30])) := by
  have h := P34 [49, 58, 54, 48] (by decide)
  rw [show parseS [49, 58, 54, 48] = ([], 2, 30) by decide +kernel] at h
  exact h
theorem g1 : digB 1 = [1] := digB_num (l := [1]) (by decide) (by decide) (by decide)
theorem w23 : Ans X 23 [.sl [vi 44, vi 26, vi 40], .sl [vi 1, vi 21]] (.ret (.tup [.sl [vi 1], vi 0])) := by
  have h := P23 [44, 26, 40] [1, 21]
  have hd : digB (numI [44, 26, 40] * numI [1, 21]) = [1] := by
    rw [show numI [44, 26, 40] * numI [1, 21] = 1 * 60 ^ 4 by decide, digB_shift, g1]
  rw [show mulS [44, 26, 40] [1, 21] = ([1], 0) by rw [mulS, if_neg (by decide), hd]; rfl] at h
  exact h
theorem g2 : mult 2 81 = 0 ∧ rem 2 81 = 81 := mult_pow (p := 2) (M := 81) (by decide) (by decide) 0
theorem g3 : mult 3 81 = 4 ∧ rem 3 81 = 1 := mult_pow (p := 3) (M := 1) (by decide) (by decide) 4
theorem g5 : mult 5 1 = 0 ∧ rem 5 1 = 1 := mult_pow (p := 5) (M := 1) (by decide) (by decide) 0
theorem w32a : Ans X 32 [.sl [vi 1, vi 21]] (.ret (.tup [.sl [vi 44, vi 26, vi 40], vi 0])) := by
  have h := P32 [1, 21]
  have hr : regS [1, 21] = (0, 4, 0, 0) := by
    rw [regS, if_neg (by decide), if_neg (by decide), show numI [1, 21] = 81 by decide]
    simp only [splitF, g2.1, g2.2, g3.1, g3.2, g5.1, g5.2]
    rfl
  have hd : digB (invW 0 4 0) = [44, 26, 40] := by
    rw [show invW 0 4 0 = numL [44, 26, 40].reverse by decide]
    exact digB_num (by decide) (by decide) (by decide)
  rw [show recS [1, 21] = ([44, 26, 40], 0) by rw [recS, hr]; dsimp only; rw [if_neg (by decide), hd]; rfl] at h
  exact h
theorem g7 : (mult 2 7 = 0 ∧ rem 2 7 = 7) ∧ (mult 3 7 = 0 ∧ rem 3 7 = 7) ∧ (mult 5 7 = 0 ∧ rem 5 7 = 7) :=
  ⟨mult_pow (p := 2) (M := 7) (by decide) (by decide) 0, mult_pow (p := 3) (M := 7) (by decide) (by decide) 0, mult_pow (p := 5) (M := 7) (by decide) (by decide) 0⟩
theorem w32b : Ans X 32 [.sl [vi 7]] (.ret (.tup [.sl [], vi 31])) := by
  have h := P32 [7]
  have hr : regS [7] = (0, 0, 0, 31) := by
    rw [regS, if_neg (by decide), if_neg (by decide), show numI [7] = 7 by decide]
    simp only [splitF, g7.1.1, g7.1.2, g7.2.1.1, g7.2.1.2, g7.2.2.1, g7.2.2.2]
    rfl
  rw [show recS [7] = ([], 31) by rw [recS, hr]; rfl] at h
  exact h
theorem w44 : Ans X 44 [vi 7, vi 3] (.ret (.tup [.agg [.sl [vi 8, vi 34, vi 17], vi (-3)], .agg [.sl [vi 8, vi 34, vi 18], vi (-3)], vi 0])) := by
  have h := P44 7 3 (by decide) (by decide) (by decide) (by decide)
  have hk : nearK 7 (60 ^ (3 - 1)) = 3 := by decide +kernel
  rw [hk] at h
  have e1 : 60 ^ 3 / 7 = numL [8, 34, 17].reverse := by decide
  have e2 : 60 ^ 3 / 7 + (if 0 < 60 ^ 3 % 7 then 1 else 0) = numL [8, 34, 18].reverse := by decide
  rw [e2, e1, shV, shV, digB_num (l := [8, 34, 17]) (by decide) (by decide) (by decide), digB_num (l := [8, 34, 18]) (by decide) (by decide) (by decide),
    vz_num (l := [8, 34, 17]) (by decide) (by decide), vz_num (l := [8, 34, 18]) (by decide) (by decide)] at h
  exact h
theorem g8 : (mult 2 8 = 3 ∧ rem 2 8 = 1) ∧ (mult 3 1 = 0 ∧ rem 3 1 = 1) :=
  ⟨mult_pow (p := 2) (M := 1) (by decide) (by decide) 3, mult_pow (p := 3) (M := 1) (by decide) (by decide) 0⟩
theorem w63 : Ans X 63 [.agg [vi 5, vi 8]] (.ret (.tup [.agg [.sl [vi 37, vi 30], vi (-2)], vi 0])) := by
  have h := P63 5 8
  have hr : frS 5 8 = ([37, 30], -2, 0) := by
    rw [frS, if_neg (by decide), show (8 : Int).toNat = 8 from rfl, show (5 : Int).toNat = 5 from rfl]
    simp only [splitF, g8.1.1, g8.1.2, g8.2.1, g8.2.2, g5.1, g5.2]
    rw [if_neg (by decide), if_neg (by decide), show 5 * invW 3 0 0 = numL [37, 30].reverse by decide, digB_num (by decide) (by decide) (by decide), vz_num (by decide) (by decide)]
    rfl
  rw [hr] at h
  exact h
theorem cut2 (a b : V) : cut [a, b] 0 2 = [a, b] := rfl
theorem rep2 (v : V) : List.replicate 2 v = [v, v] := rfl
theorem w29a : Ans X 29 [.sl [vi 1, vi 0, vi 30], vi 0, .sl [vi 1, vi 0, vi 30]] (.ret (.bool true)) := P29 [1, 0, 30] [1, 0, 30] 0 (by decide)
theorem w29b : Ans X 29 [.sl [vi 1], vi 0, .sl [vi 1]] (.ret (.bool true)) := P29 [1] [1] 0 (by decide)
theorem w29c : Ans X 29 [.sl [vi 44, vi 26, vi 40], vi 0, .sl [vi 44, vi 26, vi 40]] (.ret (.bool true)) := P29 [44, 26, 40] [44, 26, 40] 0 (by decide)
theorem w29d : Ans X 29 [.sl [vi 8, vi 34, vi 17], vi 0, .sl [vi 8, vi 34, vi 17]] (.ret (.bool true)) := P29 [8, 34, 17] [8, 34, 17] 0 (by decide)
theorem w29e : Ans X 29 [.sl [vi 8, vi 34, vi 18], vi 0, .sl [vi 8, vi 34, vi 18]] (.ret (.bool true)) := P29 [8, 34, 18] [8, 34, 18] 0 (by decide)
theorem w29f : Ans X 29 [.sl [vi 37, vi 30], vi 0, .sl [vi 37, vi 30]] (.ret (.bool true)) := P29 [37, 30] [37, 30] 0 (by decide)
theorem P26 : Ans X 26 [] (.ret (.bool true)) := by
  refine call_of_X (fn := Tryd.f26) 0 Tryd.func26 rfl (by decide +kernel) rfl ?_ ?_ ?_ ?_
  · rfl
  · exact fun _ => rfl
  · intro v hv; injection hv with hv; subst hv; rfl
  intro s hs hd ho
  have hm : s.m = ⟨.nil, []⟩ := by subst hs; rfl
  clear hs
  refine gPAS (aI @hm <|aI @rep2 <|aI @rep3 <|aI @cut2 <|aI @cut3 <|aI @co34 <|aI @sr34 <|aI @co23 <|aI @sr23 <|aI @co32 <|aI @sr32 <|aI @co29 <|aI @sr29 <|aI @w34a.iffx <|aI @w23.iffx <|aI @w32a.iffx <|aI @w32b.iffx <|aI @w29a.iffx <|aI @w29b.iffx <|aI @w29c.iffx <|aI @bne_self_eq_false.{0} <|@Bool.not_true) ?_
  refine cnd (fun h => ?_) (fun h => ?_)
  · exact absurd h (by decide)
  iterate 8 (first
    | with_reducible first | refine W_seq ?_ | refine W_skip ?_ | refine W_label ?_ | refine W_ret ?_ | refine W_exit ?_ | refine W_block ?_ | refine thenI ?_ | refine thenRet ?_ | refine thenExit ?_ | refine blockRet ?_ | refine blockI ?_ | refine blockExit ?_ | refine blockExitNe rfl ?_
    | (with_reducible refine W_region_k ?_
       intro K hK
       simp (maxSteps := 2000000) (disch := omega) only [SA, ofValue, ofCell, bin, intBin, un, idx, Go.Ev.builtin, calleeOf, V.isNilS, V.depthOk, depth1, V.ok1, V.isAgg, V.cells, isConst, Nat.reduceBEq, Nat.reduceEqDiff, ↓reduceIte, Nat.reduceLeDiff, Nat.reduceAdd, Nat.reduceMul, Nat.reduceSub, Nat.reduceLT, Int.reduceAdd, Int.reduceSub, Int.reduceMul, Int.reduceLT, Int.reduceLE, Int.reduceToNat, Int.reduceNeg, reduceIte, reduceCtorEq, SPx, SAx, SSx, appendTo, elemsOf, hm, rep2, rep3, cut2, cut3, un, co34, sr34, co44, sr44, co63, sr63, w34b.iff, w44.iff, w63.iff]
       refine hK _ _ ?_
       clear hK K)
  )
  refine W_seq ?_
  refine W_mid (fun s => s.dfs = [] ∧ s.m.out.length = 0 ∧ s.t.get 10 = .ptr ⟨0, 10, 0, 1⟩ 0 0 ∧ s.t.get 11 = .ptr ⟨0, 11, 0, 1⟩ 0 0 ∧ s.t.get 12 = .ptr ⟨0, 12, 0, 1⟩ 0 0 ∧ s.t.get 2 = vi 2 ∧ s.t.get 3 = vi 0 ∧ s.t.get 5 = vi 0 ∧ s.t.get 7 = vi 30 ∧
    s.m.row ⟨0, 10, 0, 1⟩ = some ⟨1, 54, false, false, [.agg [.sl [vi 8, vi 34, vi 17], vi (-3)]]⟩ ∧ s.m.row ⟨0, 11, 0, 1⟩ = some ⟨1, 54, false, false, [.agg [.sl [vi 8, vi 34, vi 18], vi (-3)]]⟩ ∧
    s.m.row ⟨0, 12, 0, 1⟩ = some ⟨1, 54, false, false, [.agg [.sl [vi 37, vi 30], vi (-2)]]⟩) ?_ ?_
  · refine gPS (aI @co34 <|aI @sr34 <|@w34b.iffx) ?_
    refine ⟨hd, ?_, ?_, ?_, ?_, ?_, ?_, ?_, ?_, ?_, ?_, ?_⟩
    all_goals (try refine f0 @hm ?_);all_goals try exact True.intro
  clear hd ho hm h
  rintro s ⟨hd, ho, h10, h11, h12, h2, h3, h5, h7, r10, r11, r12⟩
  refine gPAS (aI @ho <|aI @h2 <|aI @h3 <|aI @h5 <|aI @h7 <|aI @h10 <|aI @h11 <|aI @h12 <|aI @r10 <|aI @r11 <|aI @r12 <|aI @rep2 <|aI @rep3 <|aI @cut2 <|aI @cut3 <|aI @co29 <|aI @sr29 <|aI @w29d.iffx <|aI @w29e.iffx <|@w29f.iffx) ?_
  refine rP hd @Tryd.results26 ?_
  try exact True.intro
end Go.Proofs.YtpocekfifokndaaDoor
namespace Go.Proofs.YtpocekfifokndaaDoor
open Go Go.Ev Go.Pl
set_option maxRecDepth 100000
set_option maxHeartbeats 4000000
theorem P135 (l : List Nat) (hl : l.length < 1000000) : Ans X 135 [.sl (nats l)] (.ret (.sl (nats (trimL l)))) := by
  refine call_of_X (fn := Tryd.f135) 1 Tryd.func135 rfl (by decide +kernel) rfl ?_ ?_ ?_ ?_
  · rfl
  · intro h; exact absurd h (by rw [sr135]; decide)
  · intro v hv; injection hv with hv; subst hv; rfl
  intro s hs hd ho
  have hm : s.m = ⟨.nil, []⟩ := by subst hs; rfl
  have h0 : s.t.get 0 = .sl (nats l) := by subst hs; rfl
  clear hs
  refine gP (aI @h0 <|@hm) ?_
  refine W_loopg (fun (k : Nat) s => s.dfs = [] ∧ s.m.out.length = 0 ∧ s.t.get 0 = .sl (nats (l.take k)) ∧ k ≤ l.length ∧ ∀ i, k ≤ i → i < l.length → l[i]? = some 0) (fun k => k) l.length ?_ ?_
  · refine ⟨hd, ?_, ?_, Nat.le_refl _, fun i h1 h2 => by omega⟩
    all_goals (try refine f0 (aI @h0 <|@hm) ?_);all_goals try exact True.intro
    · rw [List.take_length]
  clear hd h0 ho hm
  rintro k s ⟨hd, ho, h0, hk, hz⟩
  have hlen : (l.take k).length = k := by rw [List.length_take]; omega
  rcases Nat.eq_zero_or_pos k with rfl | hp
  · refine gP (aI @h0 <|aI @nats_length <|aI @hlen <|aI @Int.natCast_zero <|aI @gt_iff_lt.{0} <|@Int.lt_irrefl) ?_
    refine cnd (fun h => ?_) (fun h => ?_)
    · simp at h
    · refine gP @h0 ?_
      refine rP hd (aI @Tryd.results135 <|@h0) ?_
      try exact True.intro
      rw [trimL_take (n := 0) (by omega) hz (by omega)]
  obtain ⟨d, hdk⟩ : ∃ d, l[k - 1]? = some d := ⟨l[k - 1]'(by omega), by simp⟩
  have hdk' : (l.take k)[k - 1]? = some d := by rw [List.getElem?_take, if_pos (by omega), hdk]
  have hp' : (0 : Int) < k := by omega
  have hc : (k : Int) - 1 = ((k - 1 : Nat) : Int) := by omega
  rcases Nat.eq_zero_or_pos d with rfl | hd0
  · refine gPC (aI @h0 <|aI @nats_length <|aI @nats_get? <|aI @hlen <|aI @gt_iff_lt.{0} <|aI @hp' <|aI @hc <|aI @hdk' <|@Int.natCast_zero) ?_
    refine cnd (fun h => ?_) (fun h => ?_)
    · refine gPSC (aI @h0 <|aI @nats_length <|aI @hlen <|aI @hc <|aI @hdk' <|aI @cut_nats_take <|@List.take_take.{0}) ?_
      refine ⟨k - 1, ⟨hd, ?_, ?_, by omega, ?_⟩, by omega⟩
      all_goals (try refine f0 @ho ?_);all_goals try exact True.intro
      · rw [Nat.min_eq_left (by omega)]; simp
      · intro i h1 h2
        by_cases e : i = k - 1
        · subst e; exact hdk
        · exact hz i (by omega) h2
    · simp at h
  · have hne : ¬ ((d : Int) = 0) := by omega
    refine gPC (aI @h0 <|aI @nats_length <|aI @nats_get? <|aI @hlen <|aI @gt_iff_lt.{0} <|aI @hp' <|aI @hc <|aI @hdk' <|(beq_eq_false_iff_ne.2 hne)) ?_
    refine cnd (fun h => ?_) (fun h => ?_)
    · simp at h
    · refine gP @h0 ?_
      refine rP hd (aI @Tryd.results135 <|@h0) ?_
      try exact True.intro
      rw [trimL_take hk hz (fun _ => by rw [hdk]; intro e; injection e; omega)]
end Go.Proofs.YtpocekfifokndaaDoor
namespace Go.Proofs.YtpocekfifokndaaDoor
open Go Go.Ev Go.Pl
set_option maxRecDepth 100000
set_option maxHeartbeats 4000000
def bringI (n m : Int) : Int := if m < 1 then 0 else n % m
theorem wrb {a : Int} (h1 : -9223372036854775808 ≤ a) (h2 : a ≤ 9223372036854775807) : V.int .i64 (wr .i64 a) = vi a := by rw [wr_i64 h1 h2]
theorem tmod_emod (n m : Int) (hm : 0 < m) : (n.tmod m < 0 → n.tmod m + m = n % m) ∧ (¬ n.tmod m < 0 → n.tmod m = n % m) := by
  have h1 := Int.emod_nonneg n (by omega : m ≠ 0)
  have h2 := Int.emod_lt_of_pos n hm
  rcases Int.lt_or_le n 0 with hn | hn
  · have h3 : n.tmod m = - ((-n) % m) := by
      rw [← Int.neg_neg n, Int.neg_tmod, Int.neg_neg]
      congr 1
      exact Int.tmod_eq_emod_of_nonneg (by omega)
    have h4 := Int.emod_nonneg (-n) (by omega : m ≠ 0)
    have h5 := Int.emod_lt_of_pos (-n) hm
    have e1 := Int.mul_ediv_add_emod n m
    have e2 := Int.mul_ediv_add_emod (-n) m
    rw [h3]
    refine ⟨fun h => ?_, fun h => ?_⟩
    · have key : n % m = m - (-n) % m := by
        rw [← Int.emod_eq_of_lt (a := m - (-n) % m) (b := m) (by omega) (by omega)]
        have e : m - (-n) % m = n + m * (1 + (-n) / m) := by rw [Int.mul_add, Int.mul_one]; omega
        rw [e, Int.add_mul_emod_self_left]
      omega
    · have hz : (-n) % m = 0 := by omega
      have : n % m = 0 := by
        have e : n = 0 + m * (-((-n) / m)) := by rw [Int.mul_neg]; omega
        rw [e, Int.add_mul_emod_self_left]; rfl
      omega
  · have h3 := Int.tmod_eq_emod_of_nonneg (a := n) (b := m) hn
    omega
theorem P33 (n m : Int) (hm : m < 1000000000000000000) : Ans X 33 [vi n, vi m] (.ret (vi (bringI n m))) := by
  refine call_of_X (fn := Tryd.f33) 2 Tryd.func33 rfl (by decide +kernel) rfl ?_ ?_ ?_ ?_
  · rfl
  · exact fun _ => rfl
  · intro v hv; injection hv with hv; subst hv; rfl
  intro s hs hd ho
  have h0 : s.t.get 0 = vi n := by subst hs; rfl
  have h1 : s.t.get 1 = vi m := by subst hs; rfl
  clear hs
  refine gP (aI @h0 <|@h1) ?_
  refine cnd (fun h => ?_) (fun h => ?_)
  · have h := of_decide_eq_true h
    refine gP @Nat.zero_add ?_
    refine rP hd @Tryd.results33 ?_
    try exact True.intro
    rw [bringI, if_pos h]
  have h := of_decide_eq_false h
  have hm0 : ¬ m = 0 := by omega
  obtain ⟨k1, k2⟩ := tmod_emod n m (by omega)
  have h2 := Int.emod_lt_of_pos n (by omega : 0 < m)
  have h3 := Int.emod_nonneg n (by omega : m ≠ 0)
  rw [bringI, if_neg h]
  generalize n % m = r at k1 k2 h2 h3 ⊢
  generalize ht : n.tmod m = t at k1 k2
  have htv : V.int .i64 (n.tmod m) = vi t := by rw [ht]
  clear ht
  refine gP (aI @h0 <|aI @h1 <|aI @hm0 <|@htv) ?_
  refine cnd (fun h => ?_) (fun h => ?_)
  · have h := of_decide_eq_true h
    have e := k1 h
    have e2 : V.int .i64 (wr .i64 (t + m)) = vi r := by rw [wr_i64 (by omega) (by omega), e]
    clear k1 k2 e
    refine gP (aI @h1 <|@e2) ?_
    refine rP hd @Tryd.results33 ?_
    try exact True.intro
  · have h := of_decide_eq_false h
    rw [← k2 h]
    refine gP @Nat.zero_add ?_
    refine rP hd @Tryd.results33 ?_
    try exact True.intro
def bN (n : Int) : Nat := (bringI n 60).toNat
theorem bN_lt (n : Int) : bN n < 60 := by
  unfold bN bringI
  rw [if_neg (by decide)]
  have := Int.emod_lt_of_pos n (by decide : (0 : Int) < 60)
  omega
theorem bN_vi (n : Int) : vi (bringI n 60) = vn (bN n) := by
  unfold bN
  have : 0 ≤ bringI n 60 := by unfold bringI; rw [if_neg (by decide)]; exact Int.emod_nonneg n (by decide)
  congr 1; omega
def madeS (raw : List Int) (k : Nat) : List Nat := trimL (((raw.take k).map bN).dropWhile (· == 0))
theorem dropWhile_at {L : List Nat} : ∀ {j : Nat}, j ≤ L.length → (∀ i, i < j → L[i]? = some 0) → (j < L.length → L[j]? ≠ some 0) → L.dropWhile (· == 0) = L.drop j := by
  induction L with
  | nil => intro j _ _ _; simp
  | cons a L ih =>
    intro j hj h1 h2
    cases j with
    | zero =>
      have := h2 (by simp)
      simp only [List.getElem?_cons_zero, ne_eq, Option.some.injEq] at this
      rw [List.dropWhile_cons_of_neg (by simpa using this)]; rfl
    | succ j =>
      have h0 := h1 0 (by omega)
      simp only [List.getElem?_cons_zero, Option.some.injEq] at h0
      rw [List.dropWhile_cons_of_pos (by simpa using h0), List.drop_succ_cons]
      exact ih (by simpa using hj) (fun i hi => by have := h1 (i + 1) (by omega); simpa using this) (fun hl => by have := h2 (by simpa using hl); simpa using this)
theorem P27 (raw : List Int) (k : Nat) (hr : raw.length < 9223372036854775808) (hk : k < 1000000) : Ans X 27 [.sl (ints raw), vn k] (.ret (.sl (nats (madeS raw k)))) := by
  refine call_of_X (fn := Tryd.f27) 2 Tryd.func27 rfl (by decide +kernel) rfl ?_ ?_ ?_ ?_
  · rfl
  · intro h; exact absurd h (by rw [sr27]; decide)
  · intro v hv; injection hv with hv; subst hv; rfl
  intro s hs hd ho
  have hm : s.m = ⟨.nil, []⟩ := by subst hs; rfl
  have h0 : s.t.get 0 = .sl (ints raw) := by subst hs; rfl
  have h1 : s.t.get 1 = vn k := by subst hs; rfl
  clear hs
  iterate 10 (first
    | with_reducible first | refine W_seq ?_ | refine W_skip ?_ | refine W_label ?_ | refine W_ret ?_ | refine W_exit ?_ | refine W_block ?_ | refine thenI ?_ | refine thenRet ?_ | refine thenExit ?_ | refine blockRet ?_ | refine blockI ?_ | refine blockExit ?_ | refine blockExitNe rfl ?_
    | (with_reducible refine W_region_k ?_
       intro K hK
       simp (maxSteps := 2000000) (disch := omega) only [SA, ofValue, ofCell, bin, intBin, un, idx, Go.Ev.builtin, calleeOf, V.isNilS, V.depthOk, depth1, V.ok1, V.isAgg, V.cells, isConst, Nat.reduceBEq, Nat.reduceEqDiff, ↓reduceIte, Nat.reduceLeDiff, Nat.reduceAdd, Nat.reduceMul, Nat.reduceSub, Nat.reduceLT, Int.reduceAdd, Int.reduceSub, Int.reduceMul, Int.reduceLT, Int.reduceLE, Int.reduceToNat, Int.reduceNeg, reduceIte, reduceCtorEq, SPx, hm]
       refine hK _ _ ?_
       clear hK K)
  )
  refine W_mid (fun s => s.dfs = [] ∧ s.m.out.length = 0 ∧ Held s.m 5 1 (s.t.get 5) ((raw.take k).map bN)) ?_ ?_
  · refine g0 @Nat.zero_add ?_
    refine W_loopg (fun (i : Nat) s => s.dfs = [] ∧ s.m.out.length = 0 ∧ s.t.get 0 = .sl (ints raw) ∧ s.t.get 1 = vn k ∧ s.t.get 6 = vn i ∧ Held s.m 5 1 (s.t.get 5) ((raw.take i).map bN) ∧ i ≤ raw.length ∧ i ≤ k) (fun i => raw.length - i) 0 ?_ ?_
    · refine ⟨hd, ?_, ?_, ?_, ?_, ⟨1, 0, ?_, ?_, .inr ⟨rfl, rfl⟩⟩, Nat.zero_le _, Nat.zero_le _⟩
      all_goals (try refine f0 (aI @h0 <|aI @h1 <|@hm) ?_);all_goals try exact True.intro
      all_goals rfl
    clear hd h0 h1 ho hm
    rintro i s ⟨hd, ho, h0, h1, h6, ⟨g, ty, h5, r5, hty⟩, hi, hik⟩
    have hlen : ((raw.take i).map bN).length = i := by simp; omega
    rw [hlen] at h5 hty
    by_cases c1 : i < raw.length
    · have c1' : (i : Int) < (raw.length : Int) := by omega
      by_cases c2 : i < k
      · have c2' : (i : Int) < (k : Int) := by omega
        obtain ⟨d, hdk⟩ : ∃ d, raw[i]? = some d := ⟨raw[i], by simp⟩
        have q := P33 d 60 (by decide)
        rw [bN_vi] at q
        have e3 : V.int .i64 (wr .i64 ((i : Int) + 1)) = vn (i + 1) := by rw [wr_i64 (by omega) (by omega)]; rfl
        have hcut : cut (nats ((raw.take i).map bN)) 0 i = nats ((raw.take i).map bN) := by
          conv => lhs; arg 3; rw [← hlen]
          exact cut_nats _
        have hnat : nats ((raw.take i).map bN) ++ [vn (bN d)] = nats ((raw.take (i + 1)).map bN) := by
          rw [nats_snoc, List.take_add_one, hdk, List.map_append]; rfl
        refine gP (aI @h0 <|aI @h1 <|aI @h6 <|aI @ints_length <|aI @c1' <|@c2') ?_
        refine cnd (fun h => ?_) (fun h => ?_)
        · refine gPS (aI @cut_one <|aI @hcut <|aI @hnat <|aI @h0 <|aI @h1 <|aI @h5 <|aI @h6 <|aI @r5 <|aI @ho <|aI @hty <|aI @hlen <|aI @ints_get? <|aI @hdk <|aI @e3 <|aI @co33 <|aI @sr33 <|@q.iffx) ?_
          refine ⟨i + 1, ⟨hd, ?_, ?_, ?_, ?_, ⟨g + 1, 3, ?_, ?_, .inl rfl⟩, by omega, by omega⟩, by omega⟩
          all_goals (try refine fS (aI @h0 <|aI @h1 <|@ho) ?_);all_goals try exact True.intro
          rw [List.length_map, List.length_take, Nat.min_eq_left (by omega)]
        · simp at h
      · have c2' : ¬ (i : Int) < (k : Int) := by omega
        refine gP (aI @h0 <|aI @h1 <|aI @h6 <|aI @ints_length <|aI @c1' <|@c2') ?_
        refine cnd (fun h => ?_) (fun h => ?_)
        · simp at h
        · refine g0 @Nat.zero_add ?_
          obtain rfl : i = k := by omega
          refine ⟨hd, ?_, ⟨g, ty, ?_, ?_, by rw [hlen]; exact hty⟩⟩
          all_goals (try refine f0 (aI @ho <|aI @h5 <|aI @r5 <|@hlen) ?_);all_goals try exact True.intro
    · have c1' : ¬ (i : Int) < (raw.length : Int) := by omega
      refine gP (aI @h0 <|aI @h1 <|aI @h6 <|aI @ints_length <|@c1') ?_
      refine cnd (fun h => ?_) (fun h => ?_)
      · simp at h
      · refine g0 @Nat.zero_add ?_
        obtain rfl : i = raw.length := by omega
        have e : raw.take raw.length = raw.take k := by rw [List.take_of_length_le (Nat.le_refl _), List.take_of_length_le hik]
        rw [e] at r5 hlen
        refine ⟨hd, ?_, ⟨g, ty, ?_, ?_, by rw [hlen]; exact hty⟩⟩
        all_goals (try refine f0 (aI @ho <|aI @h5 <|aI @r5 <|@hlen) ?_);all_goals try exact True.intro
  clear hd ho h0 h1 hm
  rintro s ⟨hd, ho, ⟨g, ty, h5, r5, hty⟩⟩
  rw [madeS]
  have hL : ((raw.take k).map bN).length < 1000000 := by rw [List.length_map, List.length_take]; omega
  have hL60 : ∀ x ∈ (raw.take k).map bN, x < 60 := fun x hx => by
    obtain ⟨y, _, rfl⟩ := List.mem_map.1 hx
    exact bN_lt y
  generalize (raw.take k).map bN = L at h5 r5 hty hL hL60 ⊢
  clear hr hk
  refine g0 @Nat.zero_add ?_
  refine W_loopg (fun (j : Nat) s => s.dfs = [] ∧ s.m.out.length = 0 ∧ s.t.get 5 = .rs ⟨0, 5, 1, g⟩ ty j (L.length - j) ∧ s.m.row ⟨0, 5, 1, g⟩ = some ⟨g, ty, true, false, nats L⟩ ∧ j ≤ L.length ∧ ∀ i, i < j → L[i]? = some 0) (fun j => L.length - j) 0 ?_ ?_
  · refine ⟨hd, ho, h5, r5, Nat.zero_le _, fun i h => absurd h (Nat.not_lt_zero _)⟩
  clear hd ho h5 r5
  rintro j s ⟨hd, ho, h5, r5, hj, hz⟩
  by_cases c1 : j < L.length
  · have hty3 : ty = 3 := by rcases hty with h | h; exact h; omega
    obtain ⟨d, hdk⟩ : ∃ d, L[j]? = some d := ⟨L[j], by simp⟩
    have c1' : ((L.length - j : Nat) : Int) > 0 := by omega
    have c1n : (0 : Int) < ((L.length - j : Nat) : Int) := by omega
    by_cases hd0 : d = 0
    · subst hd0
      have e1 : (1 : Int) ≤ ((L.length - j : Nat) : Int) := by omega
      have e2 : L.length - j - 1 = L.length - (j + 1) := by omega
      refine gPS (aI @h5 <|aI @r5 <|aI @c1' <|aI @c1n <|aI @nats_get? <|aI @hdk <|aI @Int.natCast_zero <|aI @Int.toNat_zero <|@hty3) ?_
      refine cnd (fun h => ?_) (fun h => ?_)
      · refine gPS (aI @h5 <|aI @r5 <|aI @e1 <|aI @e2 <|@hty3) ?_
        refine ⟨j + 1, ⟨hd, ?_, ?_, ?_, by omega, fun i hi => ?_⟩, by omega⟩
        all_goals (try refine f0 (aI @h5 <|aI @r5 <|aI @ho <|aI @e2 <|@hty3) ?_);all_goals try exact True.intro
        · rcases Nat.lt_or_ge i j with h | h
          · exact hz i h
          · obtain rfl : i = j := by omega
            exact hdk
      · simp at h
    · have e0 : ((d : Int) == 0) = false := by rw [beq_eq_false_iff_ne]; omega
      rw [dropWhile_at hj hz (fun _ => by rw [hdk]; intro e; exact hd0 (Option.some.inj e))]
      clear hz
      refine gPS (aI @h5 <|aI @r5 <|aI @c1' <|aI @c1n <|aI @nats_get? <|aI @hdk <|aI @Int.toNat_zero <|aI @e0 <|@hty3) ?_
      refine cnd (fun h => ?_) (fun h => ?_)
      · simp at h
      refine g0 @Nat.zero_add ?_
      have hdl : (L.drop j).length = L.length - j := List.length_drop
      refine W_loopg (fun (m : Nat) s => s.dfs = [] ∧ s.m.out.length = 0 ∧ s.t.get 5 = .rs ⟨0, 5, 1, g⟩ ty j m ∧ s.m.row ⟨0, 5, 1, g⟩ = some ⟨g, ty, true, false, nats L⟩ ∧ m ≤ L.length - j ∧ ∀ i, m ≤ i → i < L.length - j → (L.drop j)[i]? = some 0) (fun m => m) (L.length - j) ?_ ?_
      · refine ⟨hd, ?_, ?_, ?_, Nat.le_refl _, fun i h1 h2 => by omega⟩
        all_goals (try refine f0 (aI @ho <|aI @h5 <|@r5) ?_);all_goals try exact True.intro
      clear hd ho h5 r5
      rintro m s ⟨hd, ho, h5, r5, hm, hz⟩
      have hfin : (0 < m → (L.drop j)[m - 1]? ≠ some 0) → cut (nats L) j m = nats (trimL (L.drop j)) := fun h => by
        rw [trimL_take (by omega) (fun i h1 h2 => hz i h1 (by omega)) h]
        unfold cut nats
        rw [← List.map_drop, ← List.map_take]
      rcases Nat.eq_zero_or_pos m with rfl | hm0
      · have q := hfin (fun h => absurd h (Nat.lt_irrefl 0))
        have hle : j + 0 ≤ L.length := by omega
        refine gPS (aI @h5 <|aI @Int.natCast_zero <|aI @gt_iff_lt.{0} <|@Int.lt_irrefl) ?_
        refine cnd (fun h => ?_) (fun h => ?_)
        · simp at h
        · refine gPS @h5 ?_
          refine rPAS hd (aI @Tryd.results27 <|aI @ho <|aI @h5 <|aI @r5 <|aI @q <|@hle) ?_
          try exact True.intro
      · have hty3 : ty = 3 := by rcases hty with h | h; exact h; omega
        obtain ⟨d, hdk⟩ : ∃ d, (L.drop j)[m - 1]? = some d := ⟨(L.drop j)[m - 1]'(by omega), by simp⟩
        have hdk' : L[j + (m - 1)]? = some d := by rw [← List.getElem?_drop]; exact hdk
        have m1 : (m : Int) > 0 := by omega
        have m2 : V.int .i64 (wr .i64 ((m : Int) - 1)) = vn (m - 1) := by rw [wr_i64 (by omega) (by omega)]; congr 1; omega
        have m3 : (((m - 1 : Nat) : Int) < (m : Int)) := by omega
        have m4 : (((m - 1 : Nat) : Int) ≤ (m : Int)) := by omega
        have hle : j + m ≤ L.length := by omega
        by_cases hd0 : d = 0
        · subst hd0
          refine gPS (aI @h5 <|aI @r5 <|aI @m1 <|aI @m2 <|aI @m3 <|aI @nats_get? <|aI @hdk' <|aI @Int.natCast_zero <|@hty3) ?_
          refine cnd (fun h => ?_) (fun h => ?_)
          · refine gPS (aI @h5 <|aI @r5 <|aI @m2 <|aI @m4 <|aI @Nat.sub_zero <|@Int.toNat_zero) ?_
            refine ⟨m - 1, ⟨hd, ?_, ?_, ?_, by omega, fun i h1 h2 => ?_⟩, by omega⟩
            all_goals (try refine f0 (aI @ho <|aI @h5 <|@r5) ?_);all_goals try exact True.intro
            rcases Nat.lt_or_ge i m with h | h
            · obtain rfl : i = m - 1 := by omega
              exact hdk
            · exact hz i h h2
          · simp at h
        · have e0 : ((d : Int) == 0) = false := by rw [beq_eq_false_iff_ne]; omega
          have q := hfin (fun _ => by rw [hdk]; intro e; exact hd0 (Option.some.inj e))
          refine gPS (aI @h5 <|aI @r5 <|aI @m1 <|aI @m2 <|aI @m3 <|aI @nats_get? <|aI @hdk' <|aI @e0 <|@hty3) ?_
          refine cnd (fun h => ?_) (fun h => ?_)
          · simp at h
          · refine gPS @h5 ?_
            refine rPAS hd (aI @Tryd.results27 <|aI @ho <|aI @h5 <|aI @r5 <|aI @q <|@hle) ?_
            try exact True.intro
  · have c1' : ¬ ((L.length - j : Nat) : Int) > 0 := by omega
    rw [dropWhile_at hj hz (fun h => absurd h c1)]
    clear hz
    refine gPS (aI @h5 <|aI @r5 <|@c1') ?_
    refine cnd (fun h => ?_) (fun h => ?_)
    · simp at h
    refine g0 @Nat.zero_add ?_
    have hdl : (L.drop j).length = L.length - j := List.length_drop
    refine W_loopg (fun (m : Nat) s => s.dfs = [] ∧ s.m.out.length = 0 ∧ s.t.get 5 = .rs ⟨0, 5, 1, g⟩ ty j m ∧ s.m.row ⟨0, 5, 1, g⟩ = some ⟨g, ty, true, false, nats L⟩ ∧ m ≤ L.length - j ∧ ∀ i, m ≤ i → i < L.length - j → (L.drop j)[i]? = some 0) (fun m => m) (L.length - j) ?_ ?_
    · refine ⟨hd, ?_, ?_, ?_, Nat.le_refl _, fun i h1 h2 => by omega⟩
      all_goals (try refine f0 (aI @ho <|aI @h5 <|@r5) ?_);all_goals try exact True.intro
    clear hd ho h5 r5
    rintro m s ⟨hd, ho, h5, r5, hm, hz⟩
    have hfin : (0 < m → (L.drop j)[m - 1]? ≠ some 0) → cut (nats L) j m = nats (trimL (L.drop j)) := fun h => by
      rw [trimL_take (by omega) (fun i h1 h2 => hz i h1 (by omega)) h]
      unfold cut nats
      rw [← List.map_drop, ← List.map_take]
    rcases Nat.eq_zero_or_pos m with rfl | hm0
    · have q := hfin (fun h => absurd h (Nat.lt_irrefl 0))
      have hle : j + 0 ≤ L.length := by omega
      refine gPS (aI @h5 <|aI @Int.natCast_zero <|aI @gt_iff_lt.{0} <|@Int.lt_irrefl) ?_
      refine cnd (fun h => ?_) (fun h => ?_)
      · simp at h
      · refine gPS @h5 ?_
        refine rPAS hd (aI @Tryd.results27 <|aI @ho <|aI @h5 <|aI @r5 <|aI @q <|@hle) ?_
        try exact True.intro
    · have hty3 : ty = 3 := by rcases hty with h | h; exact h; omega
      obtain ⟨d, hdk⟩ : ∃ d, (L.drop j)[m - 1]? = some d := ⟨(L.drop j)[m - 1]'(by omega), by simp⟩
      have hdk' : L[j + (m - 1)]? = some d := by rw [← List.getElem?_drop]; exact hdk
      have m1 : (m : Int) > 0 := by omega
      have m2 : V.int .i64 (wr .i64 ((m : Int) - 1)) = vn (m - 1) := by rw [wr_i64 (by omega) (by omega)]; congr 1; omega
      have m3 : (((m - 1 : Nat) : Int) < (m : Int)) := by omega
      have m4 : (((m - 1 : Nat) : Int) ≤ (m : Int)) := by omega
      have hle : j + m ≤ L.length := by omega
      by_cases hd0 : d = 0
      · subst hd0
        refine gPS (aI @h5 <|aI @r5 <|aI @m1 <|aI @m2 <|aI @m3 <|aI @nats_get? <|aI @hdk' <|aI @Int.natCast_zero <|@hty3) ?_
        refine cnd (fun h => ?_) (fun h => ?_)
        · refine gPS (aI @h5 <|aI @r5 <|aI @m2 <|aI @m4 <|aI @Nat.sub_zero <|@Int.toNat_zero) ?_
          refine ⟨m - 1, ⟨hd, ?_, ?_, ?_, by omega, fun i h1 h2 => ?_⟩, by omega⟩
          all_goals (try refine f0 (aI @ho <|aI @h5 <|@r5) ?_);all_goals try exact True.intro
          rcases Nat.lt_or_ge i m with h | h
          · obtain rfl : i = m - 1 := by omega
            exact hdk
          · exact hz i h h2
        · simp at h
      · have e0 : ((d : Int) == 0) = false := by rw [beq_eq_false_iff_ne]; omega
        have q := hfin (fun _ => by rw [hdk]; intro e; exact hd0 (Option.some.inj e))
        refine gPS (aI @h5 <|aI @r5 <|aI @m1 <|aI @m2 <|aI @m3 <|aI @nats_get? <|aI @hdk' <|aI @e0 <|@hty3) ?_
        refine cnd (fun h => ?_) (fun h => ?_)
        · simp at h
        · refine gPS @h5 ?_
          refine rPAS hd (aI @Tryd.results27 <|aI @ho <|aI @h5 <|aI @r5 <|aI @q <|@hle) ?_
          try exact True.intro
end Go.Proofs.YtpocekfifokndaaDoor
namespace Go.Proofs.YtpocekfifokndaaDoor
open Go Go.Ev Go.Pl
set_option maxRecDepth 100000
set_option maxHeartbeats 4000000
def zi (a : List Nat) : List Int := a.map Int.ofNat
theorem nats_zi (a : List Nat) : nats a = ints (zi a) := nats_ints a
theorem natsOf_zi (a : List Nat) : natsOf (zi a) = a := by simp [natsOf, zi, Function.comp_def]
theorem numI_zi (a : List Nat) : numI (zi a) = numL a.reverse := by rw [numI, natsOf_zi]
structure Val (n : Nat) (a : List Nat) : Prop where
  lt : ∀ d ∈ a, d < 60
  len : a.length ≤ n
  head : a.head? ≠ some 0
  last : a.getLast? ≠ some 0
theorem Val.mono {n m : Nat} {a : List Nat} (h : Val n a) (hm : n ≤ m) : Val m a := ⟨h.lt, Nat.le_trans h.len hm, h.head, h.last⟩
theorem Val.chk {a : List Nat} (h : Val 16 a) : chk (zi a) = 0 := by
  have hl : (zi a).length = a.length := by simp [zi]
  unfold YtpocekfifokndaaDoor.chk
  rw [hl, if_neg (by have := h.len; omega), if_neg, if_neg]
  · rintro ⟨hp, h1 | h1⟩
    · rw [zi, List.getElem?_map, ← List.head?_eq_getElem?] at h1
      cases hx : a.head? with
      | none => rw [hx] at h1; simp at h1
      | some d =>
        rw [hx] at h1
        simp only [Option.map_some, Option.some.injEq] at h1
        exact h.head (by rw [hx]; congr 1; exact Int.ofNat.inj h1)
    · rw [zi, List.getElem?_map, ← List.getLast?_eq_getElem?] at h1
      cases hx : a.getLast? with
      | none => rw [hx] at h1; simp at h1
      | some d =>
        rw [hx] at h1
        simp only [Option.map_some, Option.some.injEq] at h1
        exact h.last (by rw [hx]; congr 1; exact Int.ofNat.inj h1)
  · intro h1
    obtain ⟨x, hx, hb⟩ := List.any_eq_true.1 h1
    obtain ⟨d, hd, rfl⟩ := List.mem_map.1 hx
    have := h.lt d hd
    simp only [Bool.or_eq_true, decide_eq_true_eq] at hb
    have e : (Int.ofNat d) = (d : Int) := rfl
    omega
theorem Val.num_lt {n : Nat} {a : List Nat} (h : Val n a) : numL a.reverse < 60 ^ n := by
  have := Go.Pl.num_lt (l := a.reverse) (fun d hd => h.lt d (List.mem_reverse.1 hd))
  rw [List.length_reverse] at this
  exact lt_pow_mono this h.len
theorem Val.digB {n : Nat} {a : List Nat} (h : Val n a) : Go.Pl.digB (numL a.reverse) = a := digB_num h.lt h.head h.last
theorem digB_len {N n : Nat} (h : N < 60 ^ n) : (Go.Pl.digB N).length ≤ n := by
  have h1 := canL_length_le.2 h
  have h2 := canL_len_core N
  omega
theorem digB_val {N n : Nat} (h : N < 60 ^ n) : Val n (Go.Pl.digB N) := by
  refine ⟨digB_lt N, digB_len h, ?_, ?_⟩
  · rcases Nat.eq_zero_or_pos N with rfl | hp
    · rw [digB_zero]; simp
    · rw [List.head?_eq_getElem?, digB_get N (digB_pos hp)]
      intro e
      exact top_dig hp (Option.some.inj e)
  · rcases Nat.eq_zero_or_pos N with rfl | hp
    · rw [digB_zero]; simp
    · have h0 := digB_pos hp
      have h2 := canL_len_core N
      rw [List.getLast?_eq_getElem?, digB_get N (by omega)]
      intro e
      have e' := Option.some.inj e
      rw [show (canL N).length - 1 - ((Go.Pl.digB N).length - 1) = vz N by omega] at e'
      exact vz_dig hp e'
theorem digB_eq_nil {N : Nat} : Go.Pl.digB N = [] ↔ N = 0 := by
  constructor
  · intro e
    rcases Nat.eq_zero_or_pos N with h | h
    · exact h
    · have := digB_pos h; rw [e] at this; simp at this
  · rintro rfl; exact digB_zero
theorem digB_core_mul (N M : Nat) : Go.Pl.digB (core N * M) = Go.Pl.digB (N * M) := by
  conv => rhs; rw [core_eq N, Nat.mul_right_comm]
  rw [digB_shift]
theorem Q23 {a b : List Nat} (ha : Val 16 a) (hb : Val 16 b) (h : (Go.Pl.digB (numL a.reverse * numL b.reverse)).length ≤ 16) :
    Ans X 23 [.sl (nats a), .sl (nats b)] (.ret (.tup [.sl (nats (Go.Pl.digB (numL a.reverse * numL b.reverse))), vi 0])) := by
  have q := P23 (zi a) (zi b)
  have hc : chk2 (zi a) (zi b) = 0 := by unfold chk2; rw [if_pos ha.chk]; exact hb.chk
  rw [mulS, if_neg (fun e => e hc), numI_zi, numI_zi, if_neg (by omega), ← nats_zi, ← nats_zi] at q
  exact q
theorem Q28 {a : List Nat} (ha : Val 16 a) : Ans X 28 [.sl (nats a)] (.ret (vi 0)) := by
  have q := P28 (zi a)
  rw [ha.chk, ← nats_zi] at q
  exact q
theorem zi_inj {a b : List Nat} : zi a = zi b ↔ a = b := by
  constructor
  · intro e
    have := congrArg natsOf e
    rw [natsOf_zi, natsOf_zi] at this; exact this
  · rintro rfl; rfl
theorem Q29 (a b : List Nat) (e : Int) (hl : a.length < 1000000000000) : Ans X 29 [.sl (nats a), vi e, .sl (nats b)] (.ret (.bool (decide (e = 0 ∧ a = b)))) := by
  have q := P29 (zi a) (zi b) e (by simpa [zi] using hl)
  rw [← nats_zi, ← nats_zi] at q
  simpa only [zi_inj] using q
theorem dropWhile_head (l : List Nat) : (l.dropWhile (· == 0)).head? ≠ some 0 := by
  intro e
  have := List.head?_dropWhile_not (fun x : Nat => x == 0) l
  rw [e] at this
  simp at this
theorem trimL_prefix : ∀ l : List Nat, ∃ k, trimL l = l.take k ∧ k ≤ l.length
  | [] => ⟨0, rfl, Nat.le_refl _⟩
  | d :: ds => by
    obtain ⟨k, h1, h2⟩ := trimL_prefix ds
    unfold trimL
    split
    · exact ⟨0, rfl, Nat.zero_le _⟩
    · exact ⟨k + 1, by rw [h1]; rfl, by simpa using h2⟩
theorem trimL_head {l : List Nat} (h : l.head? ≠ some 0) : (trimL l).head? ≠ some 0 := by
  obtain ⟨k, h1, h2⟩ := trimL_prefix l
  rw [h1]
  cases k with
  | zero => simp
  | succ k =>
    cases l with
    | nil => simp
    | cons d ds => simpa using h
theorem made_val (raw : List Int) (k : Nat) : Val k (madeS raw k) := by
  refine ⟨fun d hd => ?_, ?_, ?_, ?_⟩
  · have h1 := trimL_mem hd
    have h2 := (List.dropWhile_sublist (fun x : Nat => x == 0) (l := (raw.take k).map bN)).subset h1
    obtain ⟨y, _, rfl⟩ := List.mem_map.1 h2
    exact bN_lt y
  · obtain ⟨m, h1, h2⟩ := trimL_prefix (((raw.take k).map bN).dropWhile (· == 0))
    have h3 := (List.dropWhile_sublist (fun x : Nat => x == 0) (l := (raw.take k).map bN)).length_le
    rw [madeS, h1, List.length_take]
    rw [List.length_map, List.length_take] at h3
    omega
  · exact trimL_head (dropWhile_head _)
  · exact trimL_last _
theorem eqT4 (a b : Bool) : eqT Tryd.prog 8 4 (.bool a) (.bool b) = some (a == b) := by
  unfold eqT
  rw [Tryd.underlying4]
theorem eqOkb (t : TypeId) (cx cy a b : Bool) : eqOk Tryd.prog t cx cy (.bool a) (.bool b) = true := rfl
theorem mul_lt {N M a b : Nat} (hN : N < 60 ^ a) (hM : M < 60 ^ b) : N * M < 60 ^ (a + b) := by
  rw [Nat.pow_add]; exact Nat.mul_lt_mul'' hN hM
theorem Q25 (l : List Nat) (h : l.length < 1000000000000) : Ans X 25 [.sl (nats l), .sl (nats l)] (.ret (.bool true)) := by
  have q := P25 (l.map Int.ofNat) (l.map Int.ofNat) (by rw [List.length_map]; exact h)
  rw [← nats_ints, decide_eq_true rfl] at q
  exact q
end Go.Proofs.YtpocekfifokndaaDoor
namespace Go.Ev
structure Loc where
  b : Nat
  base : Nat
  z : Nat
  cap : Nat
abbrev Phi := Ref → Option (Option Loc)
abbrev Imm := Nat → Nat → Prop
inductive RelP (I : Imm) (w : World) : V → Value → Prop
  | undef : RelP I w .undef Go.undef
  | junk (x : Value) : (∀ b, x ≠ .bool b) → RelP I w .junk x
  | bool (b : Bool) : RelP I w (.bool b) (.bool b)
  | int (k : IntKind) (n : Int) : RelP I w (.int k n) (.int k n)
  | str (s : List UInt8) : RelP I w (.str s) (.string ⟨s.toArray⟩)
  | nilI : RelP I w .nilI .nilIface
  | ifc {t : TypeId} {v : V} {x : Value} : RelP I w v x → RelP I w (.ifc t v) (.iface t x)
  | nilF : RelP I w .nilF .nilFunc
  | fn {f : FuncId} {first : List V} {xs : List Value} : first.length = xs.length → (∀ (i : Nat) (v : V) (x : Value), first[i]? = some v → xs[i]? = some x → RelP I w v x) →
      RelP I w (.fn f first []) (.func (.func f) ⟨xs⟩ #[])
  | nilP : RelP I w .nilP (.pointer none)
  | cptr {e : V} {ty : TypeId} {off b o : Nat} (xs : Nat → Value) : (∀ (c : Nat) (v : V), e.cells[c]? = some v → w.cell? ⟨b, o + c, none⟩ = some (xs c) ∧ I b (o + c) ∧ (xs c).oneCell' = true) →
      (∀ (c : Nat) (v : V), e.cells[c]? = some v → RelP I w v (xs c)) → RelP I w (.cptr e ty off) (.pointer (some ⟨b, o + off, none⟩))
  | nilS : RelP I w .nilS (.slice none 0 0)
  | slNil {a : Option Addr} {cap : Nat} : RelP I w (.sl []) (.slice a 0 cap)
  | sl {es : List V} {b o z cap : Nat} (xs : Nat → Nat → Value) : es.length ≤ cap → (∀ (j : Nat) (e : V), es[j]? = some e → e.width = z) →
      (∀ (j : Nat) (e : V) (c : Nat) (v : V), es[j]? = some e → e.cells[c]? = some v → w.cell? ⟨b, o + j * z + c, none⟩ = some (xs j c) ∧ I b (o + j * z + c) ∧ (xs j c).oneCell' = true) →
      (∀ (j : Nat) (e : V) (c : Nat) (v : V), es[j]? = some e → e.cells[c]? = some v → RelP I w v (xs j c)) → RelP I w (.sl es) (.slice (some ⟨b, o, none⟩) es.length cap)
  | agg {cs : List V} {xs : List Value} : cs.length = xs.length → (∀ (i : Nat) (v : V) (x : Value), cs[i]? = some v → xs[i]? = some x → RelP I w v x) → (∀ x ∈ xs, x.oneCell' = true) →
      RelP I w (.agg cs) (.agg ⟨xs⟩)
  | tup {cs : List V} {xs : List Value} : cs.length = xs.length → (∀ (i : Nat) (v : V) (x : Value), cs[i]? = some v → xs[i]? = some x → RelP I w v x) → RelP I w (.tup cs) (.tuple ⟨xs⟩)
inductive Rel (P : Program) (I : Imm) (w : World) (φ : Phi) : V → Value → Prop
  | p {v : V} {x : Value} : RelP I w v x → Rel P I w φ v x
  | ptr {r : Ref} {j off : Nat} {l : Loc} : φ r = some (some l) → Rel P I w φ (.ptr r j off) (.pointer (some ⟨l.b, l.base + j * l.z + off, none⟩))
  | rsNil {r : Ref} {ty : TypeId} : φ r = some none → Rel P I w φ (.rs r ty 0 0) (.slice none 0 0)
  | rs {r : Ref} {ty : TypeId} {off len : Nat} {l : Loc} : φ r = some (some l) → off + len ≤ l.cap → l.z = P.cellsOf ty →
      Rel P I w φ (.rs r ty off len) (.slice (some ⟨l.b, l.base + off * l.z, none⟩) len (l.cap - off))
  | rsE {r : Ref} {ty : TypeId} {off : Nat} {l : Loc} {a : Option Addr} : φ r = some (some l) → 0 < off → Rel P I w φ (.rs r ty off 0) (.slice a 0 0)
  | fn {f : FuncId} {first cap : List V} {xs ys : List Value} : first.length = xs.length → (∀ (i : Nat) (v : V) (x : Value), first[i]? = some v → xs[i]? = some x → RelP I w v x) →
      cap.length = ys.length → (∀ (i : Nat) (v : V) (x : Value), cap[i]? = some v → ys[i]? = some x → Rel P I w φ v x) → Rel P I w φ (.fn f first cap) (.func (.func f) ⟨xs⟩ ⟨ys⟩)
  | agg {cs : List V} {xs : List Value} : cs.length = xs.length → (∀ (i : Nat) (v : V) (x : Value), cs[i]? = some v → xs[i]? = some x → Rel P I w φ v x) → (∀ x ∈ xs, x.oneCell' = true) →
      Rel P I w φ (.agg cs) (.agg ⟨xs⟩)
  | tup {cs : List V} {xs : List Value} : cs.length = xs.length → (∀ (i : Nat) (v : V) (x : Value), cs[i]? = some v → xs[i]? = some x → Rel P I w φ v x) → Rel P I w φ (.tup cs) (.tuple ⟨xs⟩)
theorem RelP.mono {I I' : Imm} {w w' : World} (hI : ∀ b o, I b o → I' b o) (hw : ∀ b o x, I b o → w.cell? ⟨b, o, none⟩ = some x → w'.cell? ⟨b, o, none⟩ = some x)
    {v : V} {x : Value} (h : RelP I w v x) : RelP I' w' v x := by
  induction h with
  | undef => exact .undef
  | junk x h => exact .junk x h
  | bool b => exact .bool b
  | int k n => exact .int k n
  | str s => exact .str s
  | nilI => exact .nilI
  | ifc _ ih => exact .ifc ih
  | nilF => exact .nilF
  | fn hl _ ih => exact .fn hl ih
  | nilP => exact .nilP
  | cptr xs hc _ ih => exact .cptr xs (fun c v e => ⟨hw _ _ _ (hc c v e).2.1 (hc c v e).1, hI _ _ (hc c v e).2.1, (hc c v e).2.2⟩) ih
  | nilS => exact .nilS
  | slNil => exact .slNil
  | sl xs h1 h2 h3 _ ih => exact .sl xs h1 h2 (fun j e c v a b => ⟨hw _ _ _ (h3 j e c v a b).2.1 (h3 j e c v a b).1, hI _ _ (h3 j e c v a b).2.1, (h3 j e c v a b).2.2⟩) ih
  | agg hl _ h1 ih => exact .agg hl ih h1
  | tup hl _ ih => exact .tup hl ih
theorem Rel.mono {P : Program} {I I' : Imm} {w w' : World} {φ φ' : Phi} (hI : ∀ b o, I b o → I' b o) (hw : ∀ b o x, I b o → w.cell? ⟨b, o, none⟩ = some x → w'.cell? ⟨b, o, none⟩ = some x)
    (hφ : ∀ r l, φ r = some l → φ' r = some l) {v : V} {x : Value} (h : Rel P I w φ v x) : Rel P I' w' φ' v x := by
  induction h with
  | p h => exact .p (h.mono hI hw)
  | ptr h => exact .ptr (hφ _ _ h)
  | rsNil h => exact .rsNil (hφ _ _ h)
  | rs h h1 h2 => exact .rs (hφ _ _ h) h1 h2
  | rsE h h1 => exact .rsE (hφ _ _ h) h1
  | fn h1 h2 h3 _ ih => exact .fn h1 (fun i v x a b => (h2 i v x a b).mono hI hw) h3 ih
  | agg h1 _ h2 ih => exact .agg h1 ih h2
  | tup h1 _ ih => exact .tup h1 ih
def RowOk (P : Program) (I : Imm) (w : World) (φ : Phi) (row : Row) : Option Loc → Prop
  | none => row.es = [] ∧ row.arr = true
  | some l => row.es.length ≤ l.cap ∧ l.z = P.cellsOf row.ty ∧ row.ty ≠ 0 ∧
      (∃ cs t, w.heap[l.b]? = some (.cells cs t (0, 0)) ∧ l.base + l.cap * l.z ≤ cs.size) ∧
      (∀ (j : Nat) (e : V), row.es[j]? = some e → e.width = l.z) ∧
      (∀ (j : Nat) (e : V) (c : Nat) (v : V), row.es[j]? = some e → e.cells[c]? = some v → ∃ x, w.cell? ⟨l.b, l.base + j * l.z + c, none⟩ = some x ∧ x.oneCell' = true ∧
        (if row.arr = true then RelP I w v x else Rel P I w φ v x)) ∧
      (∀ o, l.base ≤ o → (row.fz = true → l.base + row.es.length * l.z ≤ o) → ¬ I l.b o) ∧
      (row.fz = true → row.arr = true ∧ ∀ o, l.base ≤ o → o < l.base + row.es.length * l.z → I l.b o)
def Phi.upto (φ : Phi) (d : Nat) : Phi := fun r => if r.d ≤ d then φ r else none
theorem Phi.upto_le {φ : Phi} {d : Nat} : ∀ (r : Ref) (l : Option Loc), φ.upto d r = some l → φ r = some l := by
  intro r l h
  unfold Phi.upto at h
  split at h
  · exact h
  · simp at h
theorem Phi.upto_mono {φ φ' : Phi} (d : Nat) (h : ∀ r l, φ r = some l → φ' r = some l) : ∀ (r : Ref) (l : Option Loc), φ.upto d r = some l → φ'.upto d r = some l := by
  intro r l h'
  unfold Phi.upto at h' ⊢
  split at h'
  · rename_i hc; rw [if_pos hc]; exact h r l h'
  · simp at h'
structure MemOk (P : Program) (I : Imm) (w : World) (φ : Phi) (m : Mem) : Prop where
  live : ∀ r row, m.row r = some row → r.g ≠ 0 → ∃ l, φ r = some l ∧ RowOk P I w (φ.upto r.d) row l
  zero : ∀ r, φ r ≠ none → r.g ≠ 0
  gens : ∀ r, φ r ≠ none → ∃ rows, m.rows r.d = some rows ∧ r.g ≤ (rows.get r.s r.i).g
  dis : ∀ r r' l l', φ r = some (some l) → φ r' = some (some l') → ¬ (r.d = r'.d ∧ r.s = r'.s ∧ r.i = r'.i) → l.b ≠ l'.b
  size : ∀ r l, φ r = some (some l) → l.b < w.heap.size
def PlainAt (w : World) (b : Nat) : Prop := ∀ x, w.heap[b]? = some x → ∃ cs t, x = .cells cs t (0, 0)
structure Ext (I : Imm) (w : World) (φ : Phi) (I' : Imm) (w' : World) (φ' : Phi) : Prop where
  imm : ∀ b o, I b o → I' b o
  cell : ∀ b o x, I b o → w.cell? ⟨b, o, none⟩ = some x → w'.cell? ⟨b, o, none⟩ = some x
  phi : ∀ r l, φ r = some l → φ' r = some l
  hsize : w.heap.size ≤ w'.heap.size
  os : w'.os = w.os
  tape : w'.tape = w.tape
  output : w'.output = w.output
  block : ∀ b, b < w.heap.size → (∀ r l, φ r = some (some l) → l.b ≠ b) → w'.heap[b]? = w.heap[b]?
  fresh : ∀ r l, φ' r = some (some l) → (∃ r0 l0, φ r0 = some (some l0) ∧ l0.b = l.b ∧ r0.d = r.d) ∨ w.heap.size ≤ l.b
  immNew : ∀ b o, I' b o → I b o ∨ (∃ r0 l0, φ r0 = some (some l0) ∧ l0.b = b) ∨ w.heap.size ≤ b
  plain : True
  old : (∀ b o, I b o → b < w.heap.size) → ∀ b o, I' b o → b < w'.heap.size
theorem Ext.refl (I : Imm) (w : World) (φ : Phi) : Ext I w φ I w φ :=
  { imm := fun _ _ h => h, cell := fun _ _ _ _ h => h, phi := fun _ _ h => h, hsize := Nat.le_refl _, os := rfl, tape := rfl, output := rfl, block := fun _ _ _ => rfl,
    fresh := fun r l h => .inl ⟨r, l, h, rfl, rfl⟩, immNew := fun _ _ h => .inl h, plain := trivial, old := fun h => h }
theorem Rel.ext {P : Program} {I I' : Imm} {w w' : World} {φ φ' : Phi} (h : Ext I w φ I' w' φ') {v : V} {x : Value} (hr : Rel P I w φ v x) : Rel P I' w' φ' v x :=
  hr.mono h.imm h.cell h.phi
theorem RelP.ext {I I' : Imm} {w w' : World} {φ φ' : Phi} (h : Ext I w φ I' w' φ') {v : V} {x : Value} (hr : RelP I w v x) : RelP I' w' v x :=
  hr.mono h.imm h.cell
end Go.Ev
namespace Go.Ev
theorem outSet_length : ∀ (l : List Rows) (d s i : Nat) (r : Row), (outSet l d s i r).length = l.length
  | [], _, _, _, _ => rfl
  | x :: xs, d, s, i, r => by
    rw [outSet]; split
    · simp
    · simp [outSet_length xs]
theorem outRows_outSet : ∀ (l : List Rows) (d s i : Nat) (r : Row) (d' : Nat),
    outRows (outSet l d s i r) d' = if d' = d then (outRows l d).map (·.upd s i r) else outRows l d'
  | [], d, s, i, r, d' => by simp [outSet, outRows]
  | x :: xs, d, s, i, r, d' => by
    rw [outSet]
    by_cases hd : d = xs.length
    · rw [if_pos hd]
      simp only [outRows]
      by_cases h' : d' = xs.length
      · simp [h', hd]
      · have : ¬ d' = d := fun e => h' (e.trans hd)
        simp [h', this]
    · rw [if_neg hd]
      simp only [outRows, outSet_length]
      by_cases h' : d' = xs.length
      · have : ¬ d' = d := fun e => hd (e.symm.trans h')
        simp [h', this, ]
        intro e; exact absurd e.symm hd
      · rw [if_neg h', outRows_outSet xs]
        by_cases h2 : d' = d
        · simp [h2, hd]
        · simp [h2, h']
theorem outRows_lt : ∀ (l : List Rows) (d : Nat), (outRows l d).isSome = true → d < l.length
  | [], d, h => by simp [outRows] at h
  | x :: xs, d, h => by
    rw [outRows] at h
    by_cases hd : d = xs.length
    · simp [hd]
    · rw [if_neg hd] at h
      have := outRows_lt xs d h
      simp; omega
theorem outRows_some : ∀ (l : List Rows) (d : Nat), d < l.length → ∃ r, outRows l d = some r
  | [], d, h => by simp at h
  | x :: xs, d, h => by
    rw [outRows]
    by_cases hd : d = xs.length
    · exact ⟨x, by simp [hd]⟩
    · rw [if_neg hd]; exact outRows_some xs d (by simp at h; omega)
@[simp] theorem Mem.set_len (m : Mem) (d s i : Nat) (r : Row) : (m.set d s i r).out.length = m.out.length := by
  unfold Mem.set; split
  · rfl
  · simp [outSet_length]
theorem Mem.rows_set (m : Mem) (d s i : Nat) (r : Row) (d' : Nat) : (m.set d s i r).rows d' = if d' = d then (m.rows d).map (·.upd s i r) else m.rows d' := by
  unfold Mem.set Mem.rows
  by_cases hd : d = m.out.length
  · simp only [hd, if_true]
    by_cases h' : d' = m.out.length
    · simp [h']
    · simp [h']
  · simp only [hd, if_false, outSet_length]
    by_cases h' : d' = m.out.length
    · have : ¬ d' = d := fun e => hd (e.symm.trans h')
      simp [h', this]
      intro e; exact absurd e.symm hd
    · rw [if_neg h', outRows_outSet]
      by_cases h2 : d' = d
      · simp [h2, hd]
      · simp [h2, h']
theorem Mem.row_eq (m : Mem) (r : Ref) (row : Row) : m.row r = some row ↔ ∃ rows, m.rows r.d = some rows ∧ rows.get r.s r.i = row ∧ row.g = r.g := by
  unfold Mem.row
  cases h : m.rows r.d with
  | none => simp
  | some rows =>
    simp only [Option.some.injEq]
    constructor
    · intro e
      split at e
      · rename_i hg; simp at e; exact ⟨rows, rfl, e, by rw [← e]; exact hg⟩
      · simp at e
    · rintro ⟨_, rfl, rfl, hg⟩
      simp [hg]
theorem Mem.row_set {m : Mem} {d s i : Nat} {row' : Row} {r : Ref} {row : Row} (h : (m.set d s i row').row r = some row) :
    (r.d = d ∧ r.s = s ∧ r.i = i ∧ row = row' ∧ r.g = row'.g) ∨ (¬ (r.d = d ∧ r.s = s ∧ r.i = i) ∧ m.row r = some row) := by
  rw [Mem.row_eq] at h
  obtain ⟨rows, h1, h2, h3⟩ := h
  rw [Mem.rows_set] at h1
  by_cases hd : r.d = d
  · rw [if_pos hd] at h1
    cases hr : m.rows d with
    | none => simp [hr] at h1
    | some rows0 =>
      simp [hr] at h1
      subst h1
      by_cases hsi : r.s = s ∧ r.i = i
      · obtain ⟨hs, hi⟩ := hsi
        left
        rw [hs, hi, Rows.get_upd_same] at h2
        exact ⟨hd, hs, hi, h2.symm, by rw [← h3, ← h2]⟩
      · right
        refine ⟨fun e => hsi e.2, ?_⟩
        rw [Rows.get_upd_ne _ _ _ _ _ _ hsi] at h2
        exact (Mem.row_eq _ _ _).2 ⟨rows0, by rw [hd]; exact hr, h2, h3⟩
  · rw [if_neg hd] at h1
    exact .inr ⟨fun e => hd e.1, (Mem.row_eq _ _ _).2 ⟨rows, h1, h2, h3⟩⟩
theorem Mem.row_set_same {m : Mem} {r : Ref} {rows : Rows} {row' : Row} (h : m.rows r.d = some rows) (hg : row'.g = r.g) : (m.set r.d r.s r.i row').row r = some row' := by
  rw [Mem.row_eq]
  exact ⟨rows.upd r.s r.i row', by rw [Mem.rows_set, if_pos rfl, h]; rfl, Rows.get_upd_same _ _ _ _, hg⟩
theorem Mem.row_set_ne {m : Mem} {d s i : Nat} {row' : Row} {r : Ref} (h : ¬ (r.d = d ∧ r.s = s ∧ r.i = i)) : (m.set d s i row').row r = m.row r := by
  unfold Mem.row
  rw [Mem.rows_set]
  by_cases hd : r.d = d
  · rw [if_pos hd, hd]
    cases hr : m.rows d with
    | none => rfl
    | some rows =>
      simp only [Option.map_some]
      rw [Rows.get_upd_ne _ _ _ _ _ _ (fun e => h ⟨hd, e⟩)]
  · rw [if_neg hd]
theorem Mem.rows_own (m : Mem) : m.rows m.out.length = some m.own := by simp [Mem.rows]
theorem Mem.new_eq (m : Mem) (s i : Nat) (ty : TypeId) (arr : Bool) (es : List V) :
    m.new s i ty arr es = m.set m.out.length s i { g := (m.own.get s i).g + 1, ty, arr, fz := false, es } := by
  simp [Mem.new, Mem.set]
@[simp] theorem Mem.new_len (m : Mem) (s i : Nat) (ty : TypeId) (arr : Bool) (es : List V) : (m.new s i ty arr es).out.length = m.out.length := rfl
theorem RowOk.keep {P : Program} {I I' : Imm} {w w' : World} {φ φ' : Phi} {row : Row} {l : Option Loc} (h : RowOk P I w φ row l)
    (hI : ∀ b o, I b o → I' b o) (hw : ∀ b o x, I b o → w.cell? ⟨b, o, none⟩ = some x → w'.cell? ⟨b, o, none⟩ = some x) (hφ : ∀ r l, φ r = some l → φ' r = some l)
    (hb : ∀ loc, l = some loc → w'.heap[loc.b]? = w.heap[loc.b]?) (hn : ∀ loc o, l = some loc → loc.base ≤ o → I' loc.b o → I loc.b o) : RowOk P I' w' φ' row l := by
  cases l with
  | none => exact h
  | some loc =>
    obtain ⟨h1, h2, h2', ⟨cs, t, h3, h4⟩, h5, h6, h7, h8⟩ := h
    have hb' := hb loc rfl
    refine ⟨h1, h2, h2', ⟨cs, t, by rw [hb']; exact h3, h4⟩, h5, ?_, ?_, ?_⟩
    · intro j e c v hj hc
      obtain ⟨x, hx, hx1, hx2⟩ := h6 j e c v hj hc
      refine ⟨x, ?_, hx1, ?_⟩
      · rw [← hx]; unfold World.cell?; simp only [hb']
      · split
        · rename_i ha; rw [if_pos ha] at hx2; exact hx2.mono hI hw
        · rename_i ha; rw [if_neg ha] at hx2; exact hx2.mono hI hw hφ
    · intro o ho hfo hc
      exact h7 o ho hfo (hn loc o rfl ho hc)
    · intro hf
      exact ⟨(h8 hf).1, fun o a b => hI _ _ ((h8 hf).2 o a b)⟩
theorem MemOk.replace {P : Program} {I I' : Imm} {w w' : World} {φ φ' : Phi} {m : Mem} {d s i : Nat} {row' : Row} {rows : Rows} {l' : Option Loc} (h : MemOk P I w φ m)
    (hr : m.rows d = some rows) (hg : (rows.get s i).g ≤ row'.g) (hg0 : row'.g ≠ 0)
    (hφ : ∀ r l, φ r = some l → φ' r = some l) (hφ' : ∀ r, φ' r ≠ none → φ r ≠ none ∨ r = ⟨d, s, i, row'.g⟩) (hnew : φ' ⟨d, s, i, row'.g⟩ = some l')
    (hrow : RowOk P I' w' (φ'.upto d) row' l')
    (hkeep : ∀ r row l, m.row r = some row → r.g ≠ 0 → ¬ (r.d = d ∧ r.s = s ∧ r.i = i) → φ r = some l → RowOk P I w (φ.upto r.d) row l → RowOk P I' w' (φ'.upto r.d) row l)
    (hdis : ∀ r l0 l1, ¬ (r.d = d ∧ r.s = s ∧ r.i = i) → φ r = some (some l0) → l' = some l1 → l0.b ≠ l1.b)
    (hsize : w.heap.size ≤ w'.heap.size) (hl' : ∀ l, l' = some l → l.b < w'.heap.size) : MemOk P I' w' φ' (m.set d s i row') := by
  have back : ∀ r row, (m.set d s i row').row r = some row → r.g ≠ 0 → ∀ l, φ' r = some l → (r = ⟨d, s, i, row'.g⟩ ∧ row = row' ∧ l = l') ∨ (¬ (r.d = d ∧ r.s = s ∧ r.i = i) ∧ m.row r = some row ∧ φ r = some l) := by
    intro r row hrow hg l hl
    rcases Mem.row_set hrow with ⟨a, b, c, rfl, e⟩ | ⟨hn, hm⟩
    · left
      have : r = ⟨d, s, i, row.g⟩ := by cases r; simp_all
      subst this
      exact ⟨rfl, rfl, by rw [hnew] at hl; exact (Option.some.inj hl).symm⟩
    · right
      refine ⟨hn, hm, ?_⟩
      obtain ⟨l0, h0, _⟩ := h.live r row hm hg
      rw [hφ _ _ h0] at hl
      rw [h0]; exact hl
  constructor
  · intro r row hm hg1
    rcases Mem.row_set hm with ⟨a, b, c, rfl, e⟩ | ⟨hn, hm'⟩
    · refine ⟨l', ?_, by rw [a]; exact hrow⟩
      have : r = ⟨d, s, i, row.g⟩ := by cases r; simp_all
      rw [this]; exact hnew
    · obtain ⟨l, hl, hok⟩ := h.live r row hm' hg1
      exact ⟨l, hφ _ _ hl, hkeep r row l hm' hg1 hn hl hok⟩
  · intro r hne
    rcases hφ' r hne with h1 | rfl
    · exact h.zero r h1
    · exact hg0
  · intro r hne
    rw [Mem.rows_set]
    rcases hφ' r hne with h1 | rfl
    · obtain ⟨rows1, hr1, hle⟩ := h.gens r h1
      by_cases hd : r.d = d
      · rw [if_pos hd, hr]
        refine ⟨_, rfl, ?_⟩
        have : rows1 = rows := by rw [hd, hr] at hr1; exact (Option.some.inj hr1).symm
        subst this
        by_cases hsi : r.s = s ∧ r.i = i
        · rw [hsi.1, hsi.2, Rows.get_upd_same]; rw [hsi.1, hsi.2] at hle; omega
        · rw [Rows.get_upd_ne _ _ _ _ _ _ hsi]; exact hle
      · rw [if_neg hd]; exact ⟨rows1, hr1, hle⟩
    · rw [if_pos rfl, hr]
      exact ⟨_, rfl, by rw [Rows.get_upd_same]; exact Nat.le_refl _⟩
  · intro r r' l1 l2 hl1 hl2 hne
    have old : ∀ r l, φ' r = some l → φ r ≠ none → φ r = some l := by
      intro r l hl hn
      cases h0 : φ r with
      | none => exact absurd h0 hn
      | some l0 =>
        have := hφ _ _ h0
        rw [hl] at this
        rw [Option.some.inj this]
    rcases hφ' r (by rw [hl1]; simp) with h1 | rfl
    · rcases hφ' r' (by rw [hl2]; simp) with h2 | rfl
      · exact h.dis r r' l1 l2 (old r _ hl1 h1) (old r' _ hl2 h2) hne
      · rw [hnew] at hl2
        exact hdis r l1 l2 hne (old r _ hl1 h1) (Option.some.inj hl2)
    · rcases hφ' r' (by rw [hl2]; simp) with h2 | rfl
      · rw [hnew] at hl1
        exact (hdis r' l2 l1 (fun e => hne ⟨e.1.symm, e.2.1.symm, e.2.2.symm⟩) (old r' _ hl2 h2) (Option.some.inj hl1)).symm
      · exact absurd ⟨rfl, rfl, rfl⟩ hne
  · intro r l hl
    rcases hφ' r (by rw [hl]; simp) with h1 | rfl
    · cases hr0 : φ r with
      | none => exact absurd hr0 h1
      | some l0 =>
        have := hφ _ _ hr0
        rw [hl] at this
        have e := Option.some.inj this
        subst e
        exact Nat.lt_of_lt_of_le (h.size r l hr0) hsize
    · rw [hnew] at hl
      exact hl' l (Option.some.inj hl)
theorem MemOk.keep {P : Program} {I I' : Imm} {w w' : World} {φ : Phi} {m : Mem} (h : MemOk P I w φ m)
    (hI : ∀ b o, I b o → I' b o) (hw : ∀ b o x, I b o → w.cell? ⟨b, o, none⟩ = some x → w'.cell? ⟨b, o, none⟩ = some x)
    (hb : ∀ r loc, φ r = some (some loc) → w'.heap[loc.b]? = w.heap[loc.b]?) (hn : ∀ r loc o, φ r = some (some loc) → I' loc.b o → I loc.b o)
    (hsize : w.heap.size ≤ w'.heap.size) : MemOk P I' w' φ m := by
  refine ⟨?_, h.zero, h.gens, h.dis, fun r l hl => Nat.lt_of_lt_of_le (h.size r l hl) hsize⟩
  intro r row hm hg
  obtain ⟨l, hl, hok⟩ := h.live r row hm hg
  exact ⟨l, hl, hok.keep hI hw (Phi.upto_mono r.d (fun _ _ h => h)) (fun loc e => hb r loc (by rw [hl, e])) (fun loc o e _ hc => hn r loc o (by rw [hl, e]) hc)⟩
theorem Ext.trans {I I' I'' : Imm} {w w' w'' : World} {φ φ' φ'' : Phi} (h : Ext I w φ I' w' φ') (k : Ext I' w' φ' I'' w'' φ'') : Ext I w φ I'' w'' φ'' := by
  constructor
  · exact fun b o x => k.imm _ _ (h.imm _ _ x)
  · exact fun b o x hi hx => k.cell _ _ _ (h.imm _ _ hi) (h.cell _ _ _ hi hx)
  · exact fun r l x => k.phi _ _ (h.phi _ _ x)
  · exact Nat.le_trans h.hsize k.hsize
  · exact k.os.trans h.os
  · exact k.tape.trans h.tape
  · exact k.output.trans h.output
  · intro b hb hn
    rw [k.block b (Nat.lt_of_lt_of_le hb h.hsize) ?_, h.block b hb hn]
    intro r l hl e
    rcases h.fresh r l hl with ⟨r0, l0, h0, e0, _⟩ | hs
    · exact hn r0 l0 h0 (e0.trans e)
    · omega
  · intro r l hl
    rcases k.fresh r l hl with ⟨r0, l0, h0, e0, d0⟩ | hs
    · rcases h.fresh r0 l0 h0 with ⟨r1, l1, h1, e1, d1⟩ | hs
      · exact .inl ⟨r1, l1, h1, e1.trans e0, d1.trans d0⟩
      · exact .inr (by omega)
    · exact .inr (Nat.le_trans h.hsize hs)
  · intro b o hb
    rcases k.immNew b o hb with h1 | ⟨r0, l0, h0, e0⟩ | hs
    · exact h.immNew b o h1
    · rcases h.fresh r0 l0 h0 with ⟨r1, l1, h1, e1, _⟩ | hs
      · exact .inr (.inl ⟨r1, l1, h1, e1.trans e0⟩)
      · exact .inr (.inr (by omega))
    · exact .inr (.inr (Nat.le_trans h.hsize hs))
  · trivial
  · exact fun ho => k.old (h.old ho)
end Go.Ev
namespace Go.Ev
section
variable {P : Program} {I : Imm} {w : World} {φ : Phi}
theorem rel_int {k : IntKind} {n : Int} {x : Value} (h : Rel P I w φ (.int k n) x) : x = .int k n := by cases h with | p h => cases h; rfl
theorem rel_bool {b : Bool} {x : Value} (h : Rel P I w φ (.bool b) x) : x = .bool b := by cases h with | p h => cases h; rfl
theorem rel_str {s : List UInt8} {x : Value} (h : Rel P I w φ (.str s) x) : x = .string ⟨s.toArray⟩ := by cases h with | p h => cases h; rfl
theorem rel_nilI {x : Value} (h : Rel P I w φ .nilI x) : x = .nilIface := by cases h with | p h => cases h; rfl
theorem rel_nilP {x : Value} (h : Rel P I w φ .nilP x) : x = .pointer none := by cases h with | p h => cases h; rfl
theorem rel_nilS {x : Value} (h : Rel P I w φ .nilS x) : x = .slice none 0 0 := by cases h with | p h => cases h; rfl
theorem rel_undef {x : Value} (h : Rel P I w φ .undef x) : x = Go.undef := by cases h with | p h => cases h; rfl
theorem rel_ifc {t : TypeId} {v : V} {x : Value} (h : Rel P I w φ (.ifc t v) x) : ∃ y, x = .iface t y ∧ RelP I w v y := by
  cases h with | p h => cases h; exact ⟨_, rfl, by assumption⟩
theorem rel_ptr {r : Ref} {j off : Nat} {x : Value} (h : Rel P I w φ (.ptr r j off) x) : ∃ l, φ r = some (some l) ∧ x = .pointer (some ⟨l.b, l.base + j * l.z + off, none⟩) := by
  cases h with
  | p h => cases h
  | ptr h => exact ⟨_, h, rfl⟩
theorem rel_cptr {e : V} {ty : TypeId} {off : Nat} {x : Value} (h : Rel P I w φ (.cptr e ty off) x) : ∃ (b o : Nat) (xs : Nat → Value), x = .pointer (some ⟨b, o + off, none⟩) ∧
    (∀ (c : Nat) (v : V), e.cells[c]? = some v → w.cell? ⟨b, o + c, none⟩ = some (xs c) ∧ I b (o + c) ∧ (xs c).oneCell' = true) ∧ (∀ (c : Nat) (v : V), e.cells[c]? = some v → RelP I w v (xs c)) := by
  cases h with | p h => cases h with | cptr xs h1 h2 => exact ⟨_, _, xs, rfl, h1, h2⟩
theorem rel_rs {r : Ref} {ty : TypeId} {off len : Nat} {x : Value} (h : Rel P I w φ (.rs r ty off len) x) :
    (φ r = some none ∧ off = 0 ∧ len = 0 ∧ x = .slice none 0 0) ∨
    (∃ l, φ r = some (some l) ∧ off + len ≤ l.cap ∧ l.z = P.cellsOf ty ∧ x = .slice (some ⟨l.b, l.base + off * l.z, none⟩) len (l.cap - off)) ∨
    (∃ l a, φ r = some (some l) ∧ 0 < off ∧ len = 0 ∧ x = .slice a 0 0) := by
  cases h with
  | p h => cases h
  | rsNil h => exact .inl ⟨h, rfl, rfl, rfl⟩
  | rs h h1 h2 => exact .inr (.inl ⟨_, h, h1, h2, rfl⟩)
  | rsE h h1 => exact .inr (.inr ⟨_, _, h, h1, rfl, rfl⟩)
theorem rel_sl {es : List V} {x : Value} (h : Rel P I w φ (.sl es) x) : ∃ a cap, x = .slice a es.length cap ∧ es.length ≤ cap ∧
    (es = [] ∨ ∃ (b o z : Nat) (xs : Nat → Nat → Value), a = some ⟨b, o, none⟩ ∧ (∀ (j : Nat) (e : V), es[j]? = some e → e.width = z) ∧
      (∀ (j : Nat) (e : V) (c : Nat) (v : V), es[j]? = some e → e.cells[c]? = some v → w.cell? ⟨b, o + j * z + c, none⟩ = some (xs j c) ∧ I b (o + j * z + c) ∧ (xs j c).oneCell' = true) ∧
      (∀ (j : Nat) (e : V) (c : Nat) (v : V), es[j]? = some e → e.cells[c]? = some v → RelP I w v (xs j c))) := by
  cases h with
  | p h =>
    cases h with
    | slNil => exact ⟨_, _, rfl, Nat.zero_le _, .inl rfl⟩
    | sl xs h1 h2 h3 h4 => exact ⟨_, _, rfl, h1, .inr ⟨_, _, _, xs, rfl, h2, h3, h4⟩⟩
theorem rel_agg {cs : List V} {x : Value} (h : Rel P I w φ (.agg cs) x) : ∃ xs, x = .agg ⟨xs⟩ ∧ cs.length = xs.length ∧
    (∀ (i : Nat) (v : V) (y : Value), cs[i]? = some v → xs[i]? = some y → Rel P I w φ v y) ∧ (∀ y ∈ xs, y.oneCell' = true) := by
  cases h with
  | p h => cases h with | agg h1 h2 h3 => exact ⟨_, rfl, h1, fun i v y a b => .p (h2 i v y a b), h3⟩
  | agg h1 h2 h3 => exact ⟨_, rfl, h1, h2, h3⟩
theorem rel_tup {cs : List V} {x : Value} (h : Rel P I w φ (.tup cs) x) : ∃ xs, x = .tuple ⟨xs⟩ ∧ cs.length = xs.length ∧
    (∀ (i : Nat) (v : V) (y : Value), cs[i]? = some v → xs[i]? = some y → Rel P I w φ v y) := by
  cases h with
  | p h => cases h with | tup h1 h2 => exact ⟨_, rfl, h1, fun i v y a b => .p (h2 i v y a b)⟩
  | tup h1 h2 => exact ⟨_, rfl, h1, h2⟩
theorem rel_fn {f : FuncId} {first cap : List V} {x : Value} (h : Rel P I w φ (.fn f first cap) x) : ∃ xs ys, x = .func (.func f) ⟨xs⟩ ⟨ys⟩ ∧ first.length = xs.length ∧
    (∀ (i : Nat) (v : V) (y : Value), first[i]? = some v → xs[i]? = some y → RelP I w v y) ∧ cap.length = ys.length ∧
    (∀ (i : Nat) (v : V) (y : Value), cap[i]? = some v → ys[i]? = some y → Rel P I w φ v y) := by
  cases h with
  | p h => cases h with | fn h1 h2 => exact ⟨_, [], rfl, h1, h2, rfl, fun i v y a b => by simp at a⟩
  | fn h1 h2 h3 h4 => exact ⟨_, _, rfl, h1, h2, h3, h4⟩
def All2 (R : V → Value → Prop) (vs : List V) (xs : List Value) : Prop := vs.length = xs.length ∧ ∀ (i : Nat) (v : V) (x : Value), vs[i]? = some v → xs[i]? = some x → R v x
theorem All2.nil {R : V → Value → Prop} : All2 R [] [] := ⟨rfl, fun i v x a _ => by simp at a⟩
theorem All2.cons {R : V → Value → Prop} {v : V} {x : Value} {vs : List V} {xs : List Value} (h : R v x) (t : All2 R vs xs) : All2 R (v :: vs) (x :: xs) := by
  refine ⟨by simp [t.1], fun i v' x' a b => ?_⟩
  cases i with
  | zero => simp at a b; subst a; subst b; exact h
  | succ i => simp at a b; exact t.2 i v' x' a b
theorem All2.head {R : V → Value → Prop} {v : V} {vs : List V} {xs : List Value} (h : All2 R (v :: vs) xs) : ∃ x ys, xs = x :: ys ∧ R v x ∧ All2 R vs ys := by
  obtain ⟨hl, hr⟩ := h
  cases xs with
  | nil => simp at hl
  | cons x ys => exact ⟨x, ys, rfl, hr 0 v x rfl rfl, by simpa using hl, fun i v' x' a b => hr (i + 1) v' x' (by simpa using a) (by simpa using b)⟩
theorem All2.nil_left {R : V → Value → Prop} {xs : List Value} (h : All2 R [] xs) : xs = [] := by
  have := h.1; cases xs with
  | nil => rfl
  | cons => simp at this
theorem All2.append {R : V → Value → Prop} {a b : List V} {x y : List Value} (h : All2 R a x) (k : All2 R b y) : All2 R (a ++ b) (x ++ y) := by
  induction a generalizing x with
  | nil => rw [h.nil_left]; exact k
  | cons v vs ih => obtain ⟨x0, xs, rfl, h0, ht⟩ := h.head; exact .cons h0 (ih ht)
theorem All2.mono {R S : V → Value → Prop} {a : List V} {x : List Value} (h : All2 R a x) (hs : ∀ v x, R v x → S v x) : All2 S a x := ⟨h.1, fun i v y p q => hs _ _ (h.2 i v y p q)⟩
theorem All2.get {R : V → Value → Prop} {a : List V} {x : List Value} (h : All2 R a x) {i : Nat} {v : V} (e : a[i]? = some v) : ∃ y, x[i]? = some y ∧ R v y := by
  have hi : i < a.length := by
    rcases Nat.lt_or_ge i a.length with h' | h'
    · exact h'
    · simp [List.getElem?_eq_none h'] at e
  have hx : i < x.length := h.1 ▸ hi
  exact ⟨x[i], by simp [hx], h.2 i v _ e (by simp [hx])⟩
theorem All2.drop {R : V → Value → Prop} {a : List V} {x : List Value} (h : All2 R a x) (k : Nat) : All2 R (a.drop k) (x.drop k) :=
  ⟨by simp [h.1], fun i v y p q => h.2 (k + i) v y (by simpa using p) (by simpa using q)⟩
theorem All2.take {R : V → Value → Prop} {a : List V} {x : List Value} (h : All2 R a x) (k : Nat) : All2 R (a.take k) (x.take k) := by
  refine ⟨by simp [h.1], fun i v y p q => ?_⟩
  simp only [List.getElem?_take] at p q
  split at p
  · rename_i hi; rw [if_pos hi] at q; exact h.2 i v y p q
  · simp at p
theorem one_eq (x : Value) : one x = x.oneCell' := by cases x <;> rfl
theorem relP_ofCell (x : Value) : RelP I w (ofCell x) x := by
  cases x with
  | bool b => exact .bool _
  | int k n => exact .int _ _
  | string s => exact .str s.data.toList
  | nilIface => exact .nilI
  | nilFunc => exact .nilF
  | pointer a => cases a with
    | none => exact .nilP
    | some a => exact .junk _ (fun _ h => by cases h)
  | slice a l c =>
    simp only [ofCell]
    split
    · rename_i h
      simp only [Bool.and_eq_true, beq_iff_eq, Option.isNone_iff_eq_none] at h
      obtain ⟨⟨rfl, rfl⟩, rfl⟩ := h
      exact .nilS
    · exact .junk _ (fun _ h => by cases h)
  | func fn a b =>
    cases fn with
    | func f =>
      simp only [ofCell]
      split
      · rename_i h
        obtain ⟨ha, hb⟩ := h
        have ea : a = #[] := Array.eq_empty_of_size_eq_zero ha
        have eb : b = #[] := Array.eq_empty_of_size_eq_zero hb
        subst ea; subst eb
        exact .fn rfl (fun i v x a _ => by simp at a)
      · exact .junk _ (fun _ h => by cases h)
    | _ => exact .junk _ (fun _ h => by cases h)
  | _ => exact .junk _ (fun _ h => by cases h)
theorem relP_ofValue (x : Value) : RelP I w (ofValue x) x := by
  unfold ofValue
  split
  · rename_i cs
    split
    · rename_i h
      obtain ⟨l⟩ := cs
      refine .agg (by simp) (fun i v x a b => ?_) (fun x hx => by rw [← one_eq]; exact List.all_eq_true.1 h x hx)
      simp only [List.getElem?_map] at a
      rw [b] at a
      simp at a
      subst a
      exact relP_ofCell x
    · exact .junk _ (fun _ h => by cases h)
  · exact relP_ofCell x
theorem rel_cells {v : V} {x : Value} (h : Rel P I w φ v x) (h1 : v.ok1 = true) : All2 (Rel P I w φ) v.cells x.cells.toList ∧ (∀ y ∈ x.cells.toList, y.oneCell' = true) ∧ x.cells.size = v.width := by
  cases v with
  | agg cs =>
    obtain ⟨xs, rfl, hl, hr, ho⟩ := rel_agg h
    exact ⟨⟨by simpa [V.cells, Value.cells] using hl, by simpa [V.cells, Value.cells] using hr⟩, by simpa [Value.cells] using ho, by simp [Value.cells, V.width, hl]⟩
  | undef => simp [V.ok1] at h1
  | junk => simp [V.ok1] at h1
  | tup => simp [V.ok1] at h1
  | own => simp [V.ok1] at h1
  | bool b => cases rel_bool h; exact ⟨.cons h .nil, by simp [Value.cells, Value.oneCell'], rfl⟩
  | int k n => cases rel_int h; exact ⟨.cons h .nil, by simp [Value.cells, Value.oneCell'], rfl⟩
  | str s => cases rel_str h; exact ⟨.cons h .nil, by simp [Value.cells, Value.oneCell'], rfl⟩
  | nilI => cases rel_nilI h; exact ⟨.cons h .nil, by simp [Value.cells, Value.oneCell'], rfl⟩
  | ifc t v => obtain ⟨y, rfl, _⟩ := rel_ifc h; exact ⟨.cons h .nil, by simp [Value.cells, Value.oneCell'], rfl⟩
  | nilF => have h0 := h; cases h with | p h' => cases h'; exact ⟨.cons h0 .nil, by simp [Value.cells, Value.oneCell'], rfl⟩
  | fn f a b => obtain ⟨xs, ys, rfl, _⟩ := rel_fn h; exact ⟨.cons h .nil, by simp [Value.cells, Value.oneCell'], rfl⟩
  | nilP => cases rel_nilP h; exact ⟨.cons h .nil, by simp [Value.cells, Value.oneCell'], rfl⟩
  | ptr r j off => obtain ⟨l, _, rfl⟩ := rel_ptr h; exact ⟨.cons h .nil, by simp [Value.cells, Value.oneCell'], rfl⟩
  | cptr e ty off => obtain ⟨b, o, xs, rfl, _⟩ := rel_cptr h; exact ⟨.cons h .nil, by simp [Value.cells, Value.oneCell'], rfl⟩
  | nilS => cases rel_nilS h; exact ⟨.cons h .nil, by simp [Value.cells, Value.oneCell'], rfl⟩
  | sl es => obtain ⟨a, cap, rfl, _⟩ := rel_sl h; exact ⟨.cons h .nil, by simp [Value.cells, Value.oneCell'], rfl⟩
  | rs r ty off len =>
    rcases rel_rs h with ⟨_, _, _, rfl⟩ | ⟨l, _, _, _, rfl⟩ | ⟨l, a, _, _, _, rfl⟩
    · exact ⟨.cons h .nil, by simp [Value.cells, Value.oneCell'], rfl⟩
    · exact ⟨.cons h .nil, by simp [Value.cells, Value.oneCell'], rfl⟩
    · exact ⟨.cons h .nil, by simp [Value.cells, Value.oneCell'], rfl⟩
end
theorem heap_alloc_lt {w : World} {o : Obj} {b : Nat} (h : b < w.heap.size) : (w.alloc o).heap[b]? = w.heap[b]? := by
  show (w.heap.push o)[b]? = _
  rw [Array.getElem?_push_lt h]; simp [h]
theorem heap_alloc_new {w : World} {o : Obj} : (w.alloc o).heap[w.heap.size]? = some o := by
  show (w.heap.push o)[w.heap.size]? = _
  simp
theorem heap_alloc_cases {w : World} {o x : Obj} {b : Nat} (h : (w.alloc o).heap[b]? = some x) : (b = w.heap.size ∧ x = o) ∨ w.heap[b]? = some x := by
  have h' : (w.heap.push o)[b]? = some x := h
  rw [Array.getElem?_push] at h'
  split at h'
  · rename_i e; exact .inl ⟨e, (Option.some.inj h').symm⟩
  · exact .inr h'
def Phi.put (φ : Phi) (r : Ref) (l : Option Loc) : Phi := fun r' => if r' = r then some l else φ r'
section
variable {P : Program} {I : Imm} {w : World} {φ : Phi} {m : Mem}
theorem MemOk.newRef_none (h : MemOk P I w φ m) (s i : Nat) : φ (m.newRef s i) = none := by
  cases hr : φ (m.newRef s i) with
  | none => rfl
  | some l =>
    obtain ⟨rows, h1, h2⟩ := h.gens (m.newRef s i) (by rw [hr]; simp)
    simp only [Mem.newRef, Mem.rows_own, Option.some.injEq] at h1 h2
    subst h1
    omega
theorem Phi.put_mono {φ : Phi} {r : Ref} (h : φ r = none) (l : Option Loc) : ∀ r' l', φ r' = some l' → φ.put r l r' = some l' := by
  intro r' l' h'
  unfold Phi.put
  split
  · rename_i e; subst e; rw [h] at h'; simp at h'
  · exact h'
theorem Phi.put_same (φ : Phi) (r : Ref) (l : Option Loc) : φ.put r l r = some l := by simp [Phi.put]
theorem MemOk.nextRef_none (h : MemOk P I w φ m) {d s i : Nat} {rows : Rows} (hr : m.rows d = some rows) : φ ⟨d, s, i, (rows.get s i).g + 1⟩ = none := by
  cases hl : φ ⟨d, s, i, (rows.get s i).g + 1⟩ with
  | none => rfl
  | some l =>
    obtain ⟨rows', h1, h2⟩ := h.gens ⟨d, s, i, (rows.get s i).g + 1⟩ (by rw [hl]; simp)
    simp only at h1 h2
    rw [hr] at h1
    have := Option.some.inj h1
    subst this
    omega
theorem Mem.rows_le {m : Mem} {d : Nat} {rows : Rows} (h : m.rows d = some rows) : d ≤ m.out.length := by
  unfold Mem.rows at h
  split at h
  · omega
  · have := outRows_lt m.out d (by rw [h]; rfl)
    omega
theorem MemOk.upto_all (h : MemOk P I w φ m) : φ = φ.upto m.out.length := by
  funext r
  unfold Phi.upto
  split
  · rfl
  · rename_i hn
    cases hr : φ r with
    | none => rfl
    | some l =>
      obtain ⟨rows, h1, _⟩ := h.gens r (by rw [hr]; simp)
      exact absurd (Mem.rows_le h1) hn
theorem step_newAt (h : MemOk P I w φ m) (d s i : Nat) {rows : Rows} (hr : m.rows d = some rows) (ty : TypeId) (arr : Bool) (es : List V) (cs : Array Value) (t : TypeId) (z cap : Nat)
    (hcap : es.length ≤ cap) (hz : z = P.cellsOf ty) (hty : ty ≠ 0) (hsz : cap * z ≤ cs.size) (hw : ∀ (j : Nat) (e : V), es[j]? = some e → e.width = z)
    (hc : ∀ (j : Nat) (e : V) (c : Nat) (v : V), es[j]? = some e → e.cells[c]? = some v → ∃ x, cs[j * z + c]? = some x ∧ x.oneCell' = true ∧ (if arr = true then RelP I w v x else Rel P I w (φ.upto d) v x))
    (hI : ∀ o, ¬ I w.heap.size o) :
    MemOk P I (w.alloc (.cells cs t)) (φ.put ⟨d, s, i, (rows.get s i).g + 1⟩ (some ⟨w.heap.size, 0, z, cap⟩)) (m.set d s i { g := (rows.get s i).g + 1, ty, arr, fz := false, es }) ∧
    Ext I w φ I (w.alloc (.cells cs t)) (φ.put ⟨d, s, i, (rows.get s i).g + 1⟩ (some ⟨w.heap.size, 0, z, cap⟩)) := by
  have hnone := h.nextRef_none (s := s) (i := i) hr
  have hφ := Phi.put_mono (φ := φ) hnone (some ⟨w.heap.size, 0, z, cap⟩)
  have hcell : ∀ b o x, I b o → w.cell? ⟨b, o, none⟩ = some x → (w.alloc (.cells cs t)).cell? ⟨b, o, none⟩ = some x := by
    intro b o x hi hx
    rw [World.cell?_alloc_old _ _ _ (fun e => hI o (by simp only at e; rw [← e]; exact hi)), hx]
  have hext : Ext I w φ I (w.alloc (.cells cs t)) (φ.put ⟨d, s, i, (rows.get s i).g + 1⟩ (some ⟨w.heap.size, 0, z, cap⟩)) := by
    refine ⟨fun _ _ h => h, hcell, hφ, by simp, rfl, rfl, rfl, ?_, ?_, fun _ _ h => .inl h, trivial, fun ho b o hi => by have := ho b o hi; simp; omega⟩
    · intro b hb _
      exact heap_alloc_lt hb
    · intro r l hl
      unfold Phi.put at hl
      split at hl
      · simp at hl; subst hl; exact .inr (Nat.le_refl _)
      · exact .inl ⟨r, l, hl, rfl, rfl⟩
  refine ⟨?_, hext⟩
  refine h.replace (rows := rows) (l' := some ⟨w.heap.size, 0, z, cap⟩) hr (by simp) (by simp) hφ ?_ (Phi.put_same _ _ _) ?_ ?_ ?_ (by simp) ?_
  · intro r hne
    unfold Phi.put at hne
    split at hne
    · rename_i e; exact .inr e
    · exact .inl hne
  · refine ⟨hcap, hz, hty, ⟨cs, t, ?_, by simpa using hsz⟩, hw, ?_, ?_, ?_⟩
    · exact heap_alloc_new
    · intro j e c v hj hcv
      obtain ⟨x, hx, h1, h2⟩ := hc j e c v hj hcv
      refine ⟨x, by simp only [Nat.zero_add]; rw [World.cell?_alloc_new]; exact hx, h1, ?_⟩
      split
      · rename_i ha; simp only at ha; rw [if_pos ha] at h2; exact h2.mono (fun _ _ h => h) hcell
      · rename_i ha; simp only at ha; rw [if_neg ha] at h2; exact h2.mono (fun _ _ h => h) hcell (Phi.upto_mono d hφ)
    · intro o _ _; exact hI o
    · simp
  · intro r row l hm hg hn hl hok
    refine hok.keep (fun _ _ h => h) hcell (Phi.upto_mono r.d hφ) ?_ (fun _ _ _ _ h => h)
    intro loc e
    exact heap_alloc_lt (h.size r loc (by rw [hl, e]))
  · intro r l0 l1 hn hl e
    have := h.size r l0 hl
    simp only [Option.some.injEq] at e
    subst e
    simp only
    omega
  · intro l e
    simp only [Option.some.injEq] at e
    subst e
    simp
theorem step_new (h : MemOk P I w φ m) (s i : Nat) (ty : TypeId) (arr : Bool) (es : List V) (cs : Array Value) (t : TypeId) (z cap : Nat)
    (hcap : es.length ≤ cap) (hz : z = P.cellsOf ty) (hty : ty ≠ 0) (hsz : cap * z ≤ cs.size) (hw : ∀ (j : Nat) (e : V), es[j]? = some e → e.width = z)
    (hc : ∀ (j : Nat) (e : V) (c : Nat) (v : V), es[j]? = some e → e.cells[c]? = some v → ∃ x, cs[j * z + c]? = some x ∧ x.oneCell' = true ∧ (if arr = true then RelP I w v x else Rel P I w φ v x))
    (hI : ∀ o, ¬ I w.heap.size o) :
    MemOk P I (w.alloc (.cells cs t)) (φ.put (m.newRef s i) (some ⟨w.heap.size, 0, z, cap⟩)) (m.new s i ty arr es) ∧
    Ext I w φ I (w.alloc (.cells cs t)) (φ.put (m.newRef s i) (some ⟨w.heap.size, 0, z, cap⟩)) := by
  rw [Mem.new_eq]
  rw [h.upto_all] at hc
  exact step_newAt h m.out.length s i (Mem.rows_own m) ty arr es cs t z cap hcap hz hty hsz hw hc hI
theorem step_newNilAt (h : MemOk P I w φ m) (d s i : Nat) {rows : Rows} (hr : m.rows d = some rows) (ty : TypeId) :
    MemOk P I w (φ.put ⟨d, s, i, (rows.get s i).g + 1⟩ none) (m.set d s i { g := (rows.get s i).g + 1, ty, arr := true, fz := false, es := [] }) ∧
    Ext I w φ I w (φ.put ⟨d, s, i, (rows.get s i).g + 1⟩ none) := by
  have hnone := h.nextRef_none (s := s) (i := i) hr
  have hφ := Phi.put_mono (φ := φ) hnone none
  refine ⟨?_, ?_⟩
  · refine h.replace (rows := rows) (l' := none) hr (by simp) (by simp) hφ ?_ (Phi.put_same _ _ _) ⟨rfl, rfl⟩ ?_ (fun _ _ _ _ _ e => by simp at e) (Nat.le_refl _) (fun _ e => by simp at e)
    · intro r hne
      unfold Phi.put at hne
      split at hne
      · rename_i e; exact .inr e
      · exact .inl hne
    · intro r row l hm hg hn hl hok
      exact hok.keep (fun _ _ h => h) (fun _ _ _ _ h => h) (Phi.upto_mono r.d hφ) (fun _ _ => rfl) (fun _ _ _ _ h => h)
  · refine ⟨fun _ _ h => h, fun _ _ _ _ h => h, hφ, Nat.le_refl _, rfl, rfl, rfl, fun _ _ _ => rfl, ?_, fun _ _ h => .inl h, trivial, fun h => h⟩
    intro r l hl
    unfold Phi.put at hl
    split at hl
    · simp at hl
    · exact .inl ⟨r, l, hl, rfl, rfl⟩
theorem step_newNil (h : MemOk P I w φ m) (s i : Nat) :
    MemOk P I w (φ.put (m.newRef s i) none) (m.new s i 0 true []) ∧ Ext I w φ I w (φ.put (m.newRef s i) none) := by
  rw [Mem.new_eq]
  exact step_newNilAt h m.out.length s i (Mem.rows_own m) 0
theorem step_drew (h : MemOk P I w φ m) : MemOk P I w.drew φ m ∧ Ext I w φ I w.drew φ := by
  refine ⟨h.keep (fun _ _ h => h) (fun _ _ _ _ h => h) (fun _ _ _ => rfl) (fun _ _ _ _ h => h) (Nat.le_refl _), ?_⟩
  exact ⟨fun _ _ h => h, fun _ _ _ _ h => h, fun _ _ h => h, Nat.le_refl _, rfl, rfl, rfl, fun _ _ _ => rfl, fun r l h => .inl ⟨r, l, h, rfl, rfl⟩, fun _ _ h => .inl h, trivial, fun h => h⟩
end
end Go.Ev
namespace Go.Ev
section
variable {P : Program} {I : Imm} {w : World} {φ : Phi} {m : Mem}
theorem step_rewrite {w' : World} {φ' : Phi} {r : Ref} {row row' : Row} {l l' : Loc} (h : MemOk P I w φ m) (hm : m.row r = some row) (hl : φ r = some (some l))
    (hcell : ∀ b o x, I b o → w.cell? ⟨b, o, none⟩ = some x → w'.cell? ⟨b, o, none⟩ = some x) (hother : ∀ b, b ≠ l.b → w'.heap[b]? = w.heap[b]?)
    (hsz : w'.heap.size = w.heap.size) (hos : w'.os = w.os) (htape : w'.tape = w.tape) (hout : w'.output = w.output) (hpl : PlainAt w' l.b)
    (hlb : l'.b = l.b) (hφ' : (row'.g = row.g ∧ φ' = φ ∧ l' = l) ∨ (row'.g = row.g + 1 ∧ φ' = φ.put { r with g := row'.g } (some l')))
    (hrow : RowOk P I w' (φ'.upto r.d) row' (some l')) : MemOk P I w' φ' (m.set r.d r.s r.i row') ∧ Ext I w φ I w' φ' := by
  obtain ⟨rows, h1, h2, h3⟩ := (Mem.row_eq _ _ _).1 hm
  have hg0 := h.zero r (by rw [hl]; simp)
  have hput : φ { r with g := row.g + 1 } = none := by
    cases hr : φ { r with g := row.g + 1 } with
    | none => rfl
    | some l =>
      obtain ⟨rows', k1, k2⟩ := h.gens { r with g := row.g + 1 } (by rw [hr]; simp)
      simp only at k1 k2
      rw [h1] at k1
      have := Option.some.inj k1
      subst this
      rw [h2] at k2
      omega
  have hφ : ∀ r l, φ r = some l → φ' r = some l := by
    rcases hφ' with ⟨_, rfl, _⟩ | ⟨e, rfl⟩
    · exact fun _ _ h => h
    · rw [e]; exact Phi.put_mono hput _
  have hext : Ext I w φ I w' φ' := by
    refine ⟨fun _ _ h => h, hcell, hφ, by omega, hos, htape, hout, ?_, ?_, fun _ _ h => .inl h, trivial, fun ho b o hi => by rw [hsz]; exact ho b o hi⟩
    · intro b hb hn
      exact hother b (fun e => hn r l hl e.symm)
    · intro r' l2 hl'
      left
      rcases hφ' with ⟨_, rfl, _⟩ | ⟨e, rfl⟩
      · exact ⟨r', l2, hl', rfl, rfl⟩
      · unfold Phi.put at hl'
        split at hl'
        · rename_i er; simp at hl'; subst hl'; exact ⟨r, l, hl, hlb.symm, by rw [er]⟩
        · exact ⟨r', l2, hl', rfl, rfl⟩
  refine ⟨?_, hext⟩
  have hgle : (rows.get r.s r.i).g ≤ row'.g := by rw [h2]; rcases hφ' with ⟨e, _⟩ | ⟨e, _⟩ <;> omega
  have hsame : ∀ r' l0, ¬ (r'.d = r.d ∧ r'.s = r.s ∧ r'.i = r.i) → φ r' = some (some l0) → l0.b ≠ l.b := by
    intro r' l0 hn hl0
    exact h.dis r' r l0 l hl0 hl hn
  refine h.replace (rows := rows) (l' := some l') h1 hgle (by rcases hφ' with ⟨e, _⟩ | ⟨e, _⟩ <;> omega) hφ ?_ ?_ hrow ?_ ?_ (by omega) ?_
  · intro r' hne
    rcases hφ' with ⟨_, rfl, _⟩ | ⟨e, rfl⟩
    · exact .inl hne
    · unfold Phi.put at hne
      split at hne
      · rename_i e'; right; rw [e']
      · exact .inl hne
  · rcases hφ' with ⟨e, rfl, rfl⟩ | ⟨e, rfl⟩
    · have : (⟨r.d, r.s, r.i, row'.g⟩ : Ref) = r := by rw [e, h3]
      rw [this]; exact hl
    · exact Phi.put_same _ _ _
  · intro r' row0 l0 hm' hg' hn hl0 hok
    refine hok.keep (fun _ _ h => h) hcell (Phi.upto_mono r'.d hφ) ?_ (fun _ _ _ _ h => h)
    intro loc e
    exact hother _ (hsame r' loc hn (by rw [hl0, e]))
  · intro r' l0 l1 hn hl0 e
    simp only [Option.some.injEq] at e
    subst e
    rw [hlb]; exact hsame r' l0 hn hl0
  · intro l1 e
    simp only [Option.some.injEq] at e
    subst e
    rw [hsz, hlb]; exact h.size r l hl
theorem step_rewriteI {I' : Imm} {w' : World} {φ' : Phi} {r : Ref} {row row' : Row} {l l' : Loc} (h : MemOk P I w φ m) (hm : m.row r = some row) (hl : φ r = some (some l))
    (hcell : ∀ b o x, I b o → w.cell? ⟨b, o, none⟩ = some x → w'.cell? ⟨b, o, none⟩ = some x) (hother : ∀ b, b ≠ l.b → w'.heap[b]? = w.heap[b]?)
    (hsz : w'.heap.size = w.heap.size) (hos : w'.os = w.os) (htape : w'.tape = w.tape) (hout : w'.output = w.output)
    (hI : ∀ b o, I b o → I' b o) (hIn : ∀ b o, I' b o → I b o ∨ b = l.b)
    (hlb : l'.b = l.b) (hφ' : (row'.g = row.g ∧ φ' = φ ∧ l' = l) ∨ (row'.g = row.g + 1 ∧ φ' = φ.put { r with g := row'.g } (some l')))
    (hrow : RowOk P I' w' (φ'.upto r.d) row' (some l')) : MemOk P I' w' φ' (m.set r.d r.s r.i row') ∧ Ext I w φ I' w' φ' := by
  obtain ⟨rows, h1, h2, h3⟩ := (Mem.row_eq _ _ _).1 hm
  have hg0 := h.zero r (by rw [hl]; simp)
  have hput : φ { r with g := row.g + 1 } = none := by
    cases hr : φ { r with g := row.g + 1 } with
    | none => rfl
    | some l =>
      obtain ⟨rows', k1, k2⟩ := h.gens { r with g := row.g + 1 } (by rw [hr]; simp)
      simp only at k1 k2
      rw [h1] at k1
      have := Option.some.inj k1
      subst this
      rw [h2] at k2
      omega
  have hφ : ∀ r l, φ r = some l → φ' r = some l := by
    rcases hφ' with ⟨_, rfl, _⟩ | ⟨e, rfl⟩
    · exact fun _ _ h => h
    · rw [e]; exact Phi.put_mono hput _
  have hext : Ext I w φ I' w' φ' := by
    refine ⟨hI, hcell, hφ, by omega, hos, htape, hout, ?_, ?_, fun b o h => ?_, trivial, fun ho b o hi => ?_⟩
    rotate_right 2
    · rcases hIn b o h with h1 | h1
      · exact .inl h1
      · exact .inr (.inl ⟨r, l, hl, h1.symm⟩)
    · rw [hsz]
      rcases hIn b o hi with h1 | h1
      · exact ho b o h1
      · rw [h1]; exact h.size r l hl
    · intro b hb hn
      exact hother b (fun e => hn r l hl e.symm)
    · intro r' l2 hl'
      left
      rcases hφ' with ⟨_, rfl, _⟩ | ⟨e, rfl⟩
      · exact ⟨r', l2, hl', rfl, rfl⟩
      · unfold Phi.put at hl'
        split at hl'
        · rename_i er; simp at hl'; subst hl'; exact ⟨r, l, hl, hlb.symm, by rw [er]⟩
        · exact ⟨r', l2, hl', rfl, rfl⟩
  refine ⟨?_, hext⟩
  have hgle : (rows.get r.s r.i).g ≤ row'.g := by rw [h2]; rcases hφ' with ⟨e, _⟩ | ⟨e, _⟩ <;> omega
  have hsame : ∀ r' l0, ¬ (r'.d = r.d ∧ r'.s = r.s ∧ r'.i = r.i) → φ r' = some (some l0) → l0.b ≠ l.b := by
    intro r' l0 hn hl0
    exact h.dis r' r l0 l hl0 hl hn
  refine h.replace (rows := rows) (l' := some l') h1 hgle (by rcases hφ' with ⟨e, _⟩ | ⟨e, _⟩ <;> omega) hφ ?_ ?_ hrow ?_ ?_ (by omega) ?_
  · intro r' hne
    rcases hφ' with ⟨_, rfl, _⟩ | ⟨e, rfl⟩
    · exact .inl hne
    · unfold Phi.put at hne
      split at hne
      · rename_i e'; right; rw [e']
      · exact .inl hne
  · rcases hφ' with ⟨e, rfl, rfl⟩ | ⟨e, rfl⟩
    · have : (⟨r.d, r.s, r.i, row'.g⟩ : Ref) = r := by rw [e, h3]
      rw [this]; exact hl
    · exact Phi.put_same _ _ _
  · intro r' row0 l0 hm' hg' hn hl0 hok
    refine hok.keep hI hcell (Phi.upto_mono r'.d hφ) ?_ (fun loc o e _ hc => (hIn _ _ hc).resolve_right (hsame r' loc hn (by rw [hl0, e])))
    intro loc e
    exact hother _ (hsame r' loc hn (by rw [hl0, e]))
  · intro r' l0 l1 hn hl0 e
    simp only [Option.some.injEq] at e
    subst e
    rw [hlb]; exact hsame r' l0 hn hl0
  · intro l1 e
    simp only [Option.some.injEq] at e
    subst e
    rw [hsz, hlb]; exact h.size r l hl
theorem MemOk.congr {m' : Mem} (h : MemOk P I w φ m) (hg : ∀ d, (m.rows d = none ∧ m'.rows d = none) ∨ ∃ rows rows', m.rows d = some rows ∧ m'.rows d = some rows' ∧ ∀ s i, rows'.get s i = rows.get s i) : MemOk P I w φ m' := by
  have hr : ∀ r, m'.row r = m.row r := by
    intro r
    unfold Mem.row
    rcases hg r.d with ⟨h1, h2⟩ | ⟨rows, rows', h1, h2, h3⟩
    · rw [h1, h2]
    · rw [h1, h2]; simp only [h3]
  refine ⟨fun r row hm hg' => h.live r row (by rw [← hr]; exact hm) hg', h.zero, fun r hne => ?_, h.dis, h.size⟩
  obtain ⟨rows, h1, h2⟩ := h.gens r hne
  rcases hg r.d with ⟨k1, _⟩ | ⟨rows0, rows', k1, k2, k3⟩
  · rw [k1] at h1; simp at h1
  · rw [k1] at h1
    have := Option.some.inj h1
    subst this
    exact ⟨rows', k2, by rw [k3]; exact h2⟩
theorem Mem.set_set (m : Mem) (d s i : Nat) (A B : Row) : ∀ d', (((m.set d s i A).set d s i B).rows d' = none ∧ (m.set d s i B).rows d' = none) ∨
    ∃ rows rows', ((m.set d s i A).set d s i B).rows d' = some rows ∧ (m.set d s i B).rows d' = some rows' ∧ ∀ s' i', rows'.get s' i' = rows.get s' i' := by
  intro d'
  simp only [Mem.rows_set]
  by_cases hd : d' = d
  · simp only [if_pos hd, if_true]
    cases m.rows d with
    | none => exact .inl ⟨rfl, rfl⟩
    | some rows =>
      refine .inr ⟨_, _, rfl, rfl, fun s' i' => ?_⟩
      by_cases hs : s' = s ∧ i' = i
      · rw [hs.1, hs.2, Rows.get_upd_same, Rows.get_upd_same]
      · rw [Rows.get_upd_ne _ _ _ _ _ _ hs, Rows.get_upd_ne _ _ _ _ _ _ hs, Rows.get_upd_ne _ _ _ _ _ _ hs]
  · simp only [if_neg hd]
    cases m.rows d' with
    | none => exact .inl ⟨rfl, rfl⟩
    | some rows => exact .inr ⟨_, _, rfl, rfl, fun _ _ => rfl⟩
theorem setCells_ne (b : Nat) : ∀ (vs : List Value) (o : Nat) (w : World) (b' : Nat), b' ≠ b → (w.setCells b o vs).heap[b']? = w.heap[b']?
  | [], _, _, _, _ => rfl
  | v :: r, o, w, b', h => by
    rw [World.setCells, setCells_ne b r (o + 1) _ b' h]
    simp only [World.setCell, Array.getElem?_modify]
    rw [if_neg (fun e => h e.symm)]
theorem setCells_same (b : Nat) : ∀ (vs : List Value) (o : Nat) (w : World) (cs : Array Value) (t : TypeId) (fr : Nat × Nat), w.heap[b]? = some (.cells cs t fr) →
    ∃ cs', (w.setCells b o vs).heap[b]? = some (.cells cs' t fr) ∧ cs'.size = cs.size
  | [], _, _, cs, t, fr, h => ⟨cs, h, rfl⟩
  | v :: r, o, w, cs, t, fr, h => by
    rw [World.setCells]
    have h' : (w.setCell ⟨b, o, none⟩ v).heap[b]? = some (.cells (cs.setIfInBounds o v) t fr) := by
      simp only [World.setCell, Array.getElem?_modify]
      rw [if_pos trivial, h]
      simp
    obtain ⟨cs', h1, h2⟩ := setCells_same b r (o + 1) _ _ t fr h'
    exact ⟨cs', h1, by rw [h2]; simp⟩
theorem setCells_size (b : Nat) : ∀ (vs : List Value) (o : Nat) (w : World), (w.setCells b o vs).heap.size = w.heap.size
  | [], _, _ => rfl
  | v :: r, o, w => by rw [World.setCells, setCells_size b r]; simp
theorem setCells_os (b : Nat) : ∀ (vs : List Value) (o : Nat) (w : World), (w.setCells b o vs).os = w.os ∧ (w.setCells b o vs).tape = w.tape ∧ (w.setCells b o vs).output = w.output
  | [], _, _ => ⟨rfl, rfl, rfl⟩
  | v :: r, o, w => by rw [World.setCells]; exact setCells_os b r (o + 1) _
theorem cell_of_heap {w : World} {b : Nat} {cs : Array Value} {t : TypeId} {fr : Nat × Nat} (h : w.heap[b]? = some (.cells cs t fr)) (o : Nat) : w.cell? ⟨b, o, none⟩ = cs[o]? := by
  simp [World.cell?, h]
theorem frozen_of_heap {w : World} {b : Nat} {cs : Array Value} {t : TypeId} (h : w.heap[b]? = some (.cells cs t (0, 0))) (o : Nat) : w.frozen? ⟨b, o, none⟩ = false := by
  simp [World.frozen?, h]
theorem run_write {l : Loc} {row : Row} (hok : RowOk P I w φ row (some l)) (o : Nat) (xs : List Value) (ho : o + xs.length ≤ l.base + l.cap * l.z) (h1 : ∀ x ∈ xs, x.oneCell' = true) :
    (storeCells ⟨l.b, o, none⟩ xs).run P w = .ok () (w.setCells l.b o xs) := by
  obtain ⟨_, _, _, ⟨cs, t, hh, hsz⟩, _⟩ := hok
  have := run_storeCells_cells (P := P) l.b o xs 0 w (fun j hj => by
    rw [cell_of_heap hh]; simp; omega) (fun j hj => frozen_of_heap hh _) h1
  simpa using this
def ImmRow (I : Imm) (l : Loc) (n : Nat) : Imm := fun b o => I b o ∨ (b = l.b ∧ l.base ≤ o ∧ o < l.base + n * l.z)
def Covers (m : Mem) (φ : Phi) (I' : Imm) (r : Ref) : Prop := ∀ row l, m.row r = some row → row.arr = true → φ r = some (some l) → ∀ o, l.base ≤ o → o < l.base + row.es.length * l.z → I' l.b o
theorem step_freeze {r : Ref} {row : Row} (h : MemOk P I w φ m) (hm : m.row r = some row) (ha : row.arr = true) (hg : r.g ≠ 0) :
    ∃ I', MemOk P I' w φ (m.set r.d r.s r.i { row with fz := true }) ∧ Ext I w φ I' w φ ∧ Covers m φ I' r := by
  obtain ⟨rows, h1, h2, h3⟩ := (Mem.row_eq _ _ _).1 hm
  obtain ⟨l, hl, hok⟩ := h.live r row hm hg
  cases l with
  | none =>
    refine ⟨I, ?_, Ext.refl _ _ _, fun row' l' _ _ hl' => by rw [hl] at hl'; simp at hl'⟩
    refine h.replace (rows := rows) (l' := none) h1 (by rw [h2]; exact Nat.le_refl _) (by simp only [h3]; exact hg) (fun _ _ h => h) (fun r h => .inl h) ?_ ⟨hok.1, ha⟩ (fun _ _ _ _ _ _ _ h => h)
      (fun _ _ _ _ _ e => by simp at e) (Nat.le_refl _) (fun _ e => by simp at e)
    have : (⟨r.d, r.s, r.i, row.g⟩ : Ref) = r := by rw [h3]
    simp only [this]; exact hl
  | some l =>
    have hr : (⟨r.d, r.s, r.i, row.g⟩ : Ref) = r := by rw [h3]
    have hII : ∀ b o, I b o → ImmRow I l row.es.length b o := fun _ _ h => .inl h
    have hsame : ∀ r' l0, ¬ (r'.d = r.d ∧ r'.s = r.s ∧ r'.i = r.i) → φ r' = some (some l0) → l0.b ≠ l.b := by
      intro r' l0 hn hl0
      exact h.dis r' r l0 l hl0 hl hn
    refine ⟨ImmRow I l row.es.length, ?_, ?_, ?_⟩
    · refine h.replace (rows := rows) (l' := some l) h1 (by rw [h2]; exact Nat.le_refl _) (by simp only [h3]; exact hg) (fun _ _ h => h) (fun r h => .inl h) (by simp only [hr]; exact hl) ?_ ?_ ?_ (Nat.le_refl _) ?_
      · obtain ⟨a1, a2, a3, a4, a5, a6, a7, a8⟩ := hok
        refine ⟨a1, a2, a3, a4, a5, ?_, ?_, ?_⟩
        · intro j e c v hj hc
          obtain ⟨x, x1, x2, x3⟩ := a6 j e c v hj hc
          refine ⟨x, x1, x2, ?_⟩
          simp only at ha ⊢
          rw [if_pos ha] at x3 ⊢
          exact x3.mono hII (fun _ _ _ _ h => h)
        · intro o hb hf hc
          have := hf rfl
          simp only at this
          rcases hc with hc | ⟨_, _, hc⟩
          · exact a7 o hb (fun _ => this) hc
          · omega
        · intro _
          exact ⟨ha, fun o b1 b2 => .inr ⟨rfl, b1, b2⟩⟩
      · intro r' row0 l0 hm' hg' hn hl0 hok0
        refine hok0.keep hII (fun _ _ _ _ h => h) (fun _ _ h => h) (fun _ _ => rfl) ?_
        intro loc o e _ hc
        rcases hc with hc | ⟨hb, _⟩
        · exact hc
        · exact absurd hb (hsame r' loc hn (by rw [hl0, e]))
      · intro r' l0 l1 hn hl0 e
        simp only [Option.some.injEq] at e
        subst e
        exact hsame r' l0 hn hl0
      · intro l1 e
        simp only [Option.some.injEq] at e
        subst e
        exact h.size r l hl
    · refine ⟨hII, fun _ _ _ _ h => h, fun _ _ h => h, Nat.le_refl _, rfl, rfl, rfl, fun _ _ _ => rfl, fun r l h => .inl ⟨r, l, h, rfl, rfl⟩, ?_, trivial, ?_⟩
      rotate_left
      · intro ho b o hb
        rcases hb with hb | ⟨rfl, _⟩
        · exact ho _ _ hb
        · exact h.size r l hl
      intro b o hb
      rcases hb with hb | ⟨rfl, _⟩
      · exact .inl hb
      · exact .inr (.inl ⟨r, l, hl, rfl⟩)
    · intro row' l' hm' _ hl' o b1 b2
      rw [hm] at hm'; rw [hl] at hl'
      simp only [Option.some.injEq] at hm' hl'
      subst hm'; subst hl'
      exact .inr ⟨rfl, b1, b2⟩
theorem freeze_set {d s i : Nat} {rows : Rows} {A : Row} (h : MemOk P I w φ (m.set d s i A)) (hr : m.rows d = some rows) (ha : A.arr = true) (hg : A.g ≠ 0) :
    ∃ I', MemOk P I' w φ (m.set d s i { A with fz := true }) ∧ Ext I w φ I' w φ := by
  have hrow : (m.set d s i A).row ⟨d, s, i, A.g⟩ = some A := Mem.row_set_same (r := ⟨d, s, i, A.g⟩) hr rfl
  obtain ⟨I', h1, h2, _⟩ := step_freeze h hrow ha hg
  exact ⟨I', h1.congr (Mem.set_set m d s i A _), h2⟩
def SameRows (m m' : Mem) : Prop := m'.out.length = m.out.length ∧ ∀ r row, m.row r = some row → ∃ fz, m'.row r = some { row with fz }
theorem SameRows.refl (m : Mem) : SameRows m m := ⟨rfl, fun r row h => ⟨row.fz, h⟩⟩
theorem SameRows.trans {a b c : Mem} (h : SameRows a b) (k : SameRows b c) : SameRows a c :=
  ⟨k.1.trans h.1, fun r row hr => by obtain ⟨f, hf⟩ := h.2 r row hr; obtain ⟨g, hg⟩ := k.2 r _ hf; exact ⟨g, hg⟩⟩
theorem Covers.same {m m' : Mem} {φ : Phi} {I : Imm} {r : Ref} (h : SameRows m m') (hc : Covers m' φ I r) : Covers m φ I r := by
  intro row l hm ha hl o a b
  obtain ⟨fz, hm'⟩ := h.2 r row hm
  exact hc _ l hm' ha hl o a b
theorem Covers.mono {m : Mem} {φ : Phi} {I I' : Imm} {r : Ref} (h : ∀ b o, I b o → I' b o) (hc : Covers m φ I r) : Covers m φ I' r :=
  fun row l a a' b o c d => h _ _ (hc row l a a' b o c d)
def Cov1 (m : Mem) (φ : Phi) (I : Imm) (v : V) : Prop := ∀ r ty off len, v = .rs r ty off len → Covers m φ I r
def Cov (m : Mem) (φ : Phi) (I : Imm) : V → Prop
  | .agg cs => ∀ v ∈ cs, Cov1 m φ I v
  | v => Cov1 m φ I v
theorem SameRows.set {r : Ref} {row : Row} (hm : m.row r = some row) : SameRows m (m.set r.d r.s r.i { row with fz := true }) := by
  refine ⟨by simp, fun r' row' h' => ?_⟩
  obtain ⟨rows, h1, h2, h3⟩ := (Mem.row_eq _ _ _).1 hm
  by_cases e : r'.d = r.d ∧ r'.s = r.s ∧ r'.i = r.i
  · obtain ⟨rows', k1, k2, k3⟩ := (Mem.row_eq _ _ _).1 h'
    rw [e.1, h1] at k1
    have := Option.some.inj k1
    subst this
    rw [e.2.1, e.2.2, h2] at k2
    subst k2
    have er : r' = r := by cases r'; cases r; simp_all
    subst er
    exact ⟨true, Mem.row_set_same h1 h3⟩
  · exact ⟨row'.fz, by rw [Mem.row_set_ne e]; exact h'⟩
theorem frz1_sound (h : MemOk P I w φ m) {v : V} {x : Value} (hr : Rel P I w φ v x) :
    ∃ I', MemOk P I' w φ (frz1 m v) ∧ Ext I w φ I' w φ ∧ Cov1 m φ I' v ∧ SameRows m (frz1 m v) := by
  by_cases hrs : ∃ r ty off len, v = .rs r ty off len
  · obtain ⟨r, ty, off, len, rfl⟩ := hrs
    have hg : r.g ≠ 0 := by
      rcases rel_rs hr with ⟨h0, _⟩ | ⟨l, h0, _⟩ | ⟨l, a, h0, _⟩
      · exact h.zero r (by rw [h0]; simp)
      · exact h.zero r (by rw [h0]; simp)
      · exact h.zero r (by rw [h0]; simp)
    simp only [frz1]
    cases hm : m.row r with
    | none => exact ⟨I, h, Ext.refl _ _ _, fun r' ty' off' len' e row l hm' => (by cases e; rw [hm] at hm'; simp at hm'), SameRows.refl _⟩
    | some row =>
      simp only
      by_cases ha : row.arr = true
      · rw [if_pos ha]
        obtain ⟨I', h1, h2, h3⟩ := step_freeze h hm ha hg
        exact ⟨I', h1, h2, fun r' ty' off' len' e => (by cases e; exact h3), SameRows.set hm⟩
      · rw [if_neg ha]
        exact ⟨I, h, Ext.refl _ _ _, fun r' ty' off' len' e row' l' hm' ha' => (by cases e; rw [hm] at hm'; exact absurd (Option.some.inj hm' ▸ ha') ha), SameRows.refl _⟩
  · have e : frz1 m v = m := by
      cases v <;> first | rfl | exact absurd ⟨_, _, _, _, rfl⟩ hrs
    rw [e]
    exact ⟨I, h, Ext.refl _ _ _, fun r ty off len e' => absurd ⟨r, ty, off, len, e'⟩ hrs, SameRows.refl _⟩
theorem Cov1.mono {m : Mem} {φ : Phi} {I I' : Imm} {v : V} (hI : ∀ b o, I b o → I' b o) (h : Cov1 m φ I v) : Cov1 m φ I' v :=
  fun r ty off len e => (h r ty off len e).mono hI
theorem Cov1.same {m m' : Mem} {φ : Phi} {I : Imm} {v : V} (hs : SameRows m m') (h : Cov1 m' φ I v) : Cov1 m φ I v :=
  fun r ty off len e => Covers.same hs (h r ty off len e)
theorem Cov.mono {m : Mem} {φ : Phi} {I I' : Imm} {v : V} (hI : ∀ b o, I b o → I' b o) (h : Cov m φ I v) : Cov m φ I' v := by
  cases v <;> first | exact Cov1.mono hI h | exact fun v hv => (h v hv).mono hI
theorem Cov.same {m m' : Mem} {φ : Phi} {I : Imm} {v : V} (hs : SameRows m m') (h : Cov m' φ I v) : Cov m φ I v := by
  cases v <;> first | exact Cov1.same hs h | exact fun v hv => (h v hv).same hs
theorem frzL_sound : ∀ (vs : List V) (xs : List Value) (I : Imm) (m : Mem), MemOk P I w φ m → All2 (Rel P I w φ) vs xs →
    ∃ I', MemOk P I' w φ (frzL m vs) ∧ Ext I w φ I' w φ ∧ (∀ v ∈ vs, Cov1 m φ I' v) ∧ SameRows m (frzL m vs)
  | [], xs, I, m, h, _ => ⟨I, h, Ext.refl _ _ _, by simp, SameRows.refl _⟩
  | v :: vs, xs, I, m, h, ha => by
    obtain ⟨x, ys, rfl, h0, ht⟩ := ha.head
    obtain ⟨I1, m1, e1, c1, s1⟩ := frz1_sound h h0
    obtain ⟨I2, m2, e2, c2, s2⟩ := frzL_sound vs ys I1 (frz1 m v) m1 (ht.mono fun _ _ hr => hr.ext e1)
    refine ⟨I2, m2, e1.trans e2, ?_, s1.trans s2⟩
    intro v' hv'
    cases hv' with
    | head => exact c1.mono e2.imm
    | tail _ hv' => exact (c2 v' hv').same s1
theorem frz_sound (h : MemOk P I w φ m) {v : V} {x : Value} (hr : Rel P I w φ v x) :
    ∃ I', MemOk P I' w φ (frz m v) ∧ Ext I w φ I' w φ ∧ Cov m φ I' v ∧ SameRows m (frz m v) := by
  cases v with
  | agg cs =>
    obtain ⟨xs, rfl, hl, hp, _⟩ := rel_agg hr
    simp only [frz]
    split
    · exact frzL_sound cs xs I m h ⟨hl, hp⟩
    · rename_i hn
      refine ⟨I, h, Ext.refl _ _ _, ?_, SameRows.refl _⟩
      intro v hv r ty off len e
      subst e
      exact absurd (List.any_eq_true.2 ⟨_, hv, rfl⟩) hn
  | _ => exact frz1_sound h hr
theorem frzs_sound : ∀ (vs : List V) (xs : List Value) (I : Imm) (m : Mem), MemOk P I w φ m → All2 (Rel P I w φ) vs xs →
    ∃ I', MemOk P I' w φ (frzs m vs) ∧ Ext I w φ I' w φ ∧ (∀ v ∈ vs, Cov m φ I' v) ∧ SameRows m (frzs m vs)
  | [], xs, I, m, h, _ => ⟨I, h, Ext.refl _ _ _, by simp, SameRows.refl _⟩
  | v :: vs, xs, I, m, h, ha => by
    obtain ⟨x, ys, rfl, h0, ht⟩ := ha.head
    obtain ⟨I1, m1, e1, c1, s1⟩ := frz_sound h h0
    obtain ⟨I2, m2, e2, c2, s2⟩ := frzs_sound vs ys I1 (frz m v) m1 (ht.mono fun _ _ hr => hr.ext e1)
    refine ⟨I2, m2, e1.trans e2, ?_, s1.trans s2⟩
    intro v' hv'
    cases hv' with
    | head => exact c1.mono e2.imm
    | tail _ hv' => exact (c2 v' hv').same s1
theorem cut_get (l : List V) (off len j : Nat) (e : V) (h : (cut l off len)[j]? = some e) : l[off + j]? = some e ∧ j < len := by
  unfold cut at h
  rw [List.getElem?_take] at h
  split at h
  · rename_i hj; exact ⟨by simpa using h, hj⟩
  · simp at h
theorem cut_length (l : List V) (off len : Nat) (h : off + len ≤ l.length) : (cut l off len).length = len := by
  unfold cut; simp; omega
theorem relP_cut (I' : Imm) (hI : ∀ b o, I b o → I' b o) {row : Row} {l : Loc} (hok : RowOk P I w φ row (some l)) (ha : row.arr = true) {off len : Nat} (hle : off + len ≤ row.es.length)
    (hc : ∀ o, l.base ≤ o → o < l.base + row.es.length * l.z → I' l.b o) :
    RelP I' w (.sl (cut row.es off len)) (.slice (some ⟨l.b, l.base + off * l.z, none⟩) len (l.cap - off)) := by
  obtain ⟨h1, h2, h2', h3, h5, h6, _, _⟩ := hok
  have hlen := cut_length row.es off len hle
  have hx : ∀ (j : Nat) (e : V) (c : Nat) (v : V), (cut row.es off len)[j]? = some e → e.cells[c]? = some v → ∃ x, w.cell? ⟨l.b, l.base + off * l.z + j * l.z + c, none⟩ = some x ∧ x.oneCell' = true ∧ RelP I w v x := by
    intro j e c v hj hcv
    obtain ⟨hj', _⟩ := cut_get _ _ _ _ _ hj
    obtain ⟨x, x1, xo, x3⟩ := h6 (off + j) e c v hj' hcv
    rw [if_pos ha] at x3
    refine ⟨x, ?_, xo, x3⟩
    rw [show l.base + off * l.z + j * l.z + c = l.base + (off + j) * l.z + c by rw [Nat.add_mul]; omega]
    exact x1
  have key : RelP I' w (.sl (cut row.es off len)) (.slice (some ⟨l.b, l.base + off * l.z, none⟩) (cut row.es off len).length (l.cap - off)) := by
    refine .sl (z := l.z) (fun j c => (w.cell? ⟨l.b, l.base + off * l.z + j * l.z + c, none⟩).getD Go.undef) (by rw [hlen]; omega) ?_ ?_ ?_
    · intro j e hj
      exact h5 _ e (cut_get _ _ _ _ _ hj).1
    · intro j e c v hj hcv
      obtain ⟨x, x1, xo, _⟩ := hx j e c v hj hcv
      obtain ⟨hj', hjl⟩ := cut_get _ _ _ _ _ hj
      refine ⟨by rw [x1]; rfl, ?_, by rw [x1]; exact xo⟩
      have hw := h5 _ e hj'
      have hcl : c < l.z := by
        rw [← hw]
        have : c < e.cells.length := by
          rcases Nat.lt_or_ge c e.cells.length with h | h
          · exact h
          · simp [List.getElem?_eq_none h] at hcv
        cases e <;> simpa [V.width, V.cells] using this
      have hlt : off + j < row.es.length := by omega
      refine hc _ (by omega) ?_
      have : (off + j + 1) * l.z ≤ row.es.length * l.z := Nat.mul_le_mul_right _ hlt
      have e1 : (off + j + 1) * l.z = off * l.z + j * l.z + l.z := by rw [Nat.add_mul, Nat.add_mul]; omega
      omega
    · intro j e c v hj hcv
      obtain ⟨x, x1, _, x2⟩ := hx j e c v hj hcv
      rw [x1]
      exact x2.mono hI (fun _ _ _ _ h => h)
  rw [hlen] at key
  exact key
theorem snap1_sound (h : MemOk P I w φ m) {I' : Imm} (hI : ∀ b o, I b o → I' b o) {v v' : V} {x : Value} (hr : Rel P I w φ v x) (hc : Cov1 m φ I' v) (hs : snap1 m v = some v') :
    Rel P I' w φ v' x := by
  by_cases hrs : ∃ r ty off len, v = .rs r ty off len
  · obtain ⟨r, ty, off, len, rfl⟩ := hrs
    simp only [snap1] at hs
    cases hm : m.row r with
    | none => simp [hm] at hs
    | some row =>
      simp only [hm] at hs
      split at hs
      · rename_i hcond
        simp only [Option.some.injEq] at hs
        subst hs
        rcases rel_rs hr with ⟨h0, rfl, rfl, rfl⟩ | ⟨l, h0, h1, h2, rfl⟩ | ⟨l, a, h0, _, rfl, rfl⟩
        · have : cut row.es 0 0 = [] := by simp [cut]
          rw [this]; exact .p .slNil
        · have hg := h.zero r (by rw [h0]; simp)
          obtain ⟨l', hl', hok⟩ := h.live r row hm hg
          rw [h0] at hl'
          have := Option.some.inj hl'
          subst this
          exact .p (relP_cut I' hI hok hcond.1 hcond.2 (hc r ty off len rfl row l hm hcond.1 h0))
        · have : cut row.es off 0 = [] := by simp [cut]
          rw [this]; exact .p .slNil
      · simp at hs
  · cases v with
    | rs r ty off len => exact absurd ⟨r, ty, off, len, rfl⟩ hrs
    | nilS => simp only [snap1, Option.some.injEq] at hs; subst hs; rw [rel_nilS hr]; exact .p .slNil
    | _ => simp only [snap1, Option.some.injEq] at hs; subst hs; exact hr.mono hI (fun _ _ _ _ h => h) (fun _ _ h => h)
theorem snapL_sound : ∀ (vs vs' : List V) (xs : List Value) {I I' : Imm}, MemOk P I w φ m → (∀ b o, I b o → I' b o) → All2 (Rel P I w φ) vs xs → (∀ v ∈ vs, Cov1 m φ I' v) → snapL m vs = some vs' →
    All2 (Rel P I' w φ) vs' xs
  | [], vs', xs, I, I', _, _, ha, _, hs => by
    simp only [snapL, Option.some.injEq] at hs; subst hs; rw [ha.nil_left]; exact .nil
  | v :: vs, vs', xs, I, I', h, hI, ha, hc, hs => by
    obtain ⟨x, ys, rfl, h0, ht⟩ := ha.head
    simp only [snapL] at hs
    cases h1 : snap1 m v with
    | none => simp [h1] at hs
    | some v1 =>
      cases h2 : snapL m vs with
      | none => simp [h1, h2] at hs
      | some vs1 =>
        simp only [h1, h2, Option.some.injEq] at hs
        subst hs
        exact .cons (snap1_sound h hI h0 (hc v (by simp)) h1) (snapL_sound vs vs1 ys h hI ht (fun v hv => hc v (by simp [hv])) h2)
theorem snap_sound (h : MemOk P I w φ m) {I' : Imm} (hI : ∀ b o, I b o → I' b o) {v v' : V} {x : Value} (hr : Rel P I w φ v x) (hc : Cov m φ I' v) (hs : snap m v = some v') :
    Rel P I' w φ v' x := by
  cases v with
  | agg cs =>
    obtain ⟨xs, rfl, hl, hp, ho⟩ := rel_agg hr
    simp only [snap] at hs
    split at hs
    · cases h1 : snapL m cs with
      | none => simp [h1] at hs
      | some cs' =>
        simp only [h1, Option.map_some, Option.some.injEq] at hs
        subst hs
        have := snapL_sound cs cs' xs h hI ⟨hl, hp⟩ hc h1
        exact .agg this.1 this.2 ho
    · simp only [Option.some.injEq] at hs; subst hs; exact hr.mono hI (fun _ _ _ _ h => h) (fun _ _ h => h)
  | _ => exact snap1_sound h hI hr hc hs
theorem snaps_sound : ∀ (vs vs' : List V) (xs : List Value) {I I' : Imm}, MemOk P I w φ m → (∀ b o, I b o → I' b o) → All2 (Rel P I w φ) vs xs → (∀ v ∈ vs, Cov m φ I' v) → snaps m vs = some vs' →
    All2 (Rel P I' w φ) vs' xs
  | [], vs', xs, I, I', _, _, ha, _, hs => by
    simp only [snaps, Option.some.injEq] at hs; subst hs; rw [ha.nil_left]; exact .nil
  | v :: vs, vs', xs, I, I', h, hI, ha, hc, hs => by
    obtain ⟨x, ys, rfl, h0, ht⟩ := ha.head
    simp only [snaps] at hs
    cases h1 : snap m v with
    | none => simp [h1] at hs
    | some v1 =>
      cases h2 : snaps m vs with
      | none => simp [h1, h2] at hs
      | some vs1 =>
        simp only [h1, h2, Option.some.injEq] at hs
        subst hs
        exact .cons (snap_sound h hI h0 (hc v (by simp)) h1) (snaps_sound vs vs1 ys h hI ht (fun v hv => hc v (by simp [hv])) h2)
theorem pure1 {v : V} {x : Value} (hr : Rel P I w φ v x) (ho : x.oneCell' = true) (hn : v.loose = false) : RelP I w v x := by
  cases hr with
  | p h => exact h
  | ptr h => simp [V.loose] at hn
  | rsNil h => simp [V.loose] at hn
  | rs h h1 h2 => simp [V.loose] at hn
  | rsE h h1 => simp [V.loose] at hn
  | fn h1 h2 h3 h4 =>
    rename_i f first cap xs ys
    simp only [V.loose, Bool.not_eq_false', List.isEmpty_iff] at hn
    subst hn
    have : ys = [] := by cases ys with
      | nil => rfl
      | cons => simp at h3
    subst this
    exact .fn h1 h2
  | agg h1 h2 h3 => simp [Value.oneCell'] at ho
  | tup h1 h2 => simp [Value.oneCell'] at ho
theorem pureR {v : V} {x : Value} (hr : Rel P I w φ v x) (hn : v.refs = false) : RelP I w v x := by
  cases hr with
  | p h => exact h
  | ptr h => simp [V.refs, V.loose] at hn
  | rsNil h => simp [V.refs, V.loose] at hn
  | rs h h1 h2 => simp [V.refs, V.loose] at hn
  | rsE h h1 => simp [V.refs, V.loose] at hn
  | fn h1 h2 h3 h4 => exact pure1 (.fn h1 h2 h3 h4) rfl hn
  | agg hl hp ho =>
    simp only [V.refs, List.any_eq_false] at hn
    refine .agg hl (fun i v y a b => ?_) ho
    exact pure1 (hp i v y a b) (ho y (List.mem_of_getElem? b)) (by simpa using hn v (List.mem_of_getElem? a))
  | tup hl hp => simp [V.refs] at hn
theorem pure_of {v : V} {x : Value} (hr : Rel P I w φ v x) (hn : v.refs = false) (h1 : v.ok1 = true ∨ ∃ k, v = .junk ∧ k = x) : RelP I w v x := by
  cases v with
  | agg cs =>
    obtain ⟨xs, rfl, hl, hp, ho⟩ := rel_agg hr
    simp only [V.refs, List.any_eq_false] at hn
    refine .agg hl (fun i v y a b => ?_) ho
    exact pure1 (hp i v y a b) (ho y (List.mem_of_getElem? b)) (by simpa using hn v (List.mem_of_getElem? a))
  | junk => cases hr with | p h => exact h
  | undef => simp [V.ok1] at h1
  | tup => simp [V.ok1] at h1
  | own => simp [V.ok1] at h1
  | bool b => rw [rel_bool hr]; exact .bool _
  | int k n => rw [rel_int hr]; exact .int _ _
  | str s => rw [rel_str hr]; exact .str _
  | nilI => rw [rel_nilI hr]; exact .nilI
  | ifc t v => obtain ⟨y, rfl, hy⟩ := rel_ifc hr; exact .ifc hy
  | nilF => cases hr with | p h => exact h
  | nilP => rw [rel_nilP hr]; exact .nilP
  | fn f a b => obtain ⟨xs, ys, rfl, _⟩ := rel_fn hr; exact pure1 hr rfl hn
  | ptr => simp [V.refs, V.loose] at hn
  | rs => simp [V.refs, V.loose] at hn
  | nilS => simp [V.refs, V.loose] at hn
  | cptr => cases hr with | p h => exact h
  | sl es => cases hr with | p h => exact h
end
end Go.Ev
namespace Go.Ev
section
variable {X : Env} {I : Imm} {w : World} {φ : Phi} {m : Mem}
def GlobOk (X : Env) (I : Imm) (w : World) : Prop := (∀ g ∈ X.ints, ∃ k : Int, w.cell? ⟨g, 0, none⟩ = some (.int .i64 k) ∧ I g 0) ∧ ∀ g v ty, X.glob g = some (v, ty) →
  ∃ xs : Nat → Value, ∀ (c : Nat) (u : V), v.cells[c]? = some u → w.cell? ⟨g, c, none⟩ = some (xs c) ∧ I g c ∧ (xs c).oneCell' = true ∧ RelP I w u (xs c)
theorem GlobOk.ext {I' : Imm} {w' : World} {φ φ' : Phi} (h : GlobOk X I w) (e : Ext I w φ I' w' φ') : GlobOk X I' w' := by
  refine ⟨fun g hg => ?_, fun g v ty hg => ?_⟩
  · obtain ⟨k, h1, h2⟩ := h.1 g hg
    exact ⟨k, e.cell _ _ _ h2 h1, e.imm _ _ h2⟩
  obtain ⟨xs, hx⟩ := h.2 g v ty hg
  exact ⟨xs, fun c u hc => ⟨e.cell _ _ _ (hx c u hc).2.1 (hx c u hc).1, e.imm _ _ (hx c u hc).2.1, (hx c u hc).2.2.1, (hx c u hc).2.2.2.ext e⟩⟩
def TmOk (X : Env) (I : Imm) (w : World) (φ : Phi) (t : Tm) (a : Act) : Prop := ∀ i, Rel X.P I w φ (t.get i) (a.tmps.getD i Go.undef)
theorem opd_rel {t : Tm} {a : Act} (ht : TmOk X I w φ t a) (hg : GlobOk X I w) (x : Operand) : Rel X.P I w φ (opd X t x) (a.eval x) := by
  cases x with
  | tmp i => exact ht i
  | const v => exact .p (relP_ofValue v)
  | func f => exact .p (.fn rfl (fun i v x a _ => by simp at a))
  | global g =>
    simp only [opd, Act.eval]
    cases h : X.glob g with
    | none => exact .p (.junk _ (fun _ h => by cases h))
    | some p =>
      obtain ⟨v, ty⟩ := p
      obtain ⟨xs, hx⟩ := hg.2 g v ty h
      have := RelP.cptr (I := I) (w := w) (e := v) (ty := ty) (off := 0) (b := g) (o := 0) xs (fun c u hc => by
        have := hx c u hc; rw [Nat.zero_add]; exact ⟨this.1, this.2.1, this.2.2.1⟩) (fun c u hc => (hx c u hc).2.2.2)
      exact .p this
theorem opds_rel {t : Tm} {a : Act} (ht : TmOk X I w φ t a) (hg : GlobOk X I w) (l : List Operand) : All2 (Rel X.P I w φ) (mapOpd X t l) (l.map a.eval) := by
  induction l with
  | nil => exact .nil
  | cons x l ih => exact .cons (opd_rel ht hg x) ih
theorem info_of_underlying {P : Program} {t : TypeId} {d : TypeDesc} (h : P.underlying t = some d) : ∃ i, P.info? t = some i := by
  unfold Program.underlying at h
  cases hi : P.info? t with
  | none => simp [hi] at h
  | some i => exact ⟨i, rfl⟩
theorem run_sizeOf' {P : Program} {t : TypeId} {d : TypeDesc} (h : P.underlying t = some d) (w : World) : (sizeOf t).run P w = .ok (P.cellsOf t) w := by
  obtain ⟨i, hi⟩ := info_of_underlying h
  exact run_sizeOf w hi
theorem aggT_some {P : Program} {t : TypeId} {b : Bool} (h : aggT P t = some b) : ∃ d, P.underlying t = some d := by
  unfold aggT at h
  cases hd : P.underlying t with
  | none => simp [hd] at h
  | some d => exact ⟨d, rfl⟩
theorem run_isAgg {P : Program} {t : TypeId} {b : Bool} (h : aggT P t = some b) (w : World) : (isAgg t).run P w = .ok b w := by
  obtain ⟨d, hd⟩ := aggT_some h
  unfold aggT at h
  rw [hd] at h
  simp only [isAgg, Sem.run_bind, run_underlying hd, Result.andThen_ok]
  cases d <;> simp at h <;> subst h <;> rfl
theorem part_sound {P : Program} {t : TypeId} {cs : List V} {xs : List Value} {off : Nat} {v : V} (ha : All2 (Rel P I w φ) cs xs) (ho : ∀ y ∈ xs, y.oneCell' = true) (h : Ev.part P t cs off = some v) :
    ∃ x, (Go.part t ⟨xs⟩ off).run P w = .ok x w ∧ Rel P I w φ v x := by
  unfold Ev.part at h
  cases hg : aggT P t with
  | none => simp [hg] at h
  | some b =>
    obtain ⟨d, hd⟩ := aggT_some hg
    rw [hg] at h
    cases b with
    | true =>
      simp only [Option.some.injEq] at h
      subst h
      refine ⟨.agg ⟨(xs.drop off).take (P.cellsOf t)⟩, ?_, ?_⟩
      · simp only [Go.part, Sem.run_bind, run_isAgg hg, Result.andThen_ok, if_true, run_sizeOf' hd, Sem.run_pure]
        congr 2
        apply Array.ext'
        simp [List.extract_eq_take_drop]
      · have := (ha.drop off).take (P.cellsOf t)
        exact .agg this.1 this.2 (fun y hy => ho y (List.mem_of_mem_drop (List.mem_of_mem_take hy)))
    | false =>
      simp only at h
      obtain ⟨y, hy, hr⟩ := ha.get h
      refine ⟨y, ?_, hr⟩
      simp only [Go.part, Sem.run_bind, run_isAgg hg, Result.andThen_ok, Bool.false_eq_true, if_false]
      have : (⟨xs⟩ : Array Value)[off]? = some y := by simpa using hy
      rw [this]
      rfl
theorem add_off (b o k : Nat) : (⟨b, o, none⟩ : Addr).add k = ⟨b, o + k, none⟩ := by
  unfold Addr.add; split <;> simp_all
theorem load_sound {P : Program} {t ty : TypeId} {e v : V} {b o off : Nat} (hc : ∀ (c : Nat) (u : V), e.cells[c]? = some u → ∃ x, w.cell? ⟨b, o + c, none⟩ = some x ∧ x.oneCell' = true ∧ Rel P I w φ u x)
    (h : Ev.pick P t ty e off = some v) : ∃ x, (loadVar t ⟨b, o + off, none⟩).run P w = .ok x w ∧ Rel P I w φ v x := by
  have agg : ∀ (cs : List V) (o : Nat), (∀ (c : Nat) (u : V), cs[c]? = some u → ∃ x, w.cell? ⟨b, o + c, none⟩ = some x ∧ x.oneCell' = true ∧ Rel P I w φ u x) →
      ∃ xs : List Value, (loadCells ⟨b, o, none⟩ cs.length).run P w = .ok ⟨xs⟩ w ∧ All2 (Rel P I w φ) cs xs ∧ ∀ y ∈ xs, y.oneCell' = true := by
    intro cs o hcs
    have hl := run_loadCells (P := P) w ⟨b, o, none⟩ cs.length (fun j => (w.cell? ⟨b, o + j, none⟩).getD Go.undef) (fun j hj => by
      rw [add_off]
      obtain ⟨x, hx, _⟩ := hcs j cs[j] (by simp [hj])
      rw [hx]; rfl)
    refine ⟨_, hl, ⟨by simp, ?_⟩, ?_⟩
    · intro i u x hu hx
      obtain ⟨y, hy, _, hr⟩ := hcs i u hu
      have hi : i < cs.length := by
        rcases Nat.lt_or_ge i cs.length with h | h
        · exact h
        · simp [List.getElem?_eq_none h] at hu
      simp only [List.getElem?_map, List.getElem?_range hi, Option.map_some, Option.some.injEq] at hx
      rw [hy] at hx
      simp at hx
      subst hx
      exact hr
    · intro y hy
      simp only [List.mem_map, List.mem_range] at hy
      obtain ⟨j, hj, rfl⟩ := hy
      obtain ⟨x, hx, h1, _⟩ := hcs j cs[j] (by simp [hj])
      rw [hx]; exact h1
  unfold Ev.pick at h
  split at h
  · rename_i hto
    obtain ⟨rfl, rfl⟩ := hto
    split at h
    · rename_i hag
      obtain ⟨hag, hwd⟩ := hag
      simp only [Option.some.injEq] at h
      subst h
      obtain ⟨d, hd⟩ := aggT_some hag
      simp only [Nat.add_zero]
      cases e with
      | agg cs =>
        obtain ⟨xs, h1, h2, h3⟩ := agg cs o hc
        have hag' : aggT P t = some true := hag
        have hw' : P.cellsOf t = cs.length := hwd.symm
        refine ⟨.agg ⟨xs⟩, ?_, .agg h2.1 h2.2 h3⟩
        simp only [loadVar, Sem.run_bind, run_isAgg hag', Result.andThen_ok, if_true, run_sizeOf' hd, hw', h1, Sem.run_pure]
      | _ =>
        obtain ⟨x, hx, _, hr⟩ := hc 0 _ rfl
        refine ⟨x, ?_, hr⟩
        simp only [Nat.add_zero] at hx
        simp only [loadVar, Sem.run_bind, run_isAgg hag, V.isAgg, Result.andThen_ok, Bool.false_eq_true, if_false, run_load, hx]
    · simp at h
  · split at h
    · rename_i hle
      unfold Ev.part at h
      cases hg : aggT P t with
      | none => simp [hg] at h
      | some bb =>
        obtain ⟨d, hd⟩ := aggT_some hg
        rw [hg] at h
        have hwc : e.cells.length = e.width := by cases e <;> rfl
        cases bb with
        | true =>
          simp only [Option.some.injEq] at h
          subst h
          obtain ⟨xs, h1, h2, h3⟩ := agg ((e.cells.drop off).take (P.cellsOf t)) (o + off) (fun c u hu => by
            rw [List.getElem?_take] at hu
            split at hu
            · rw [List.getElem?_drop] at hu
              obtain ⟨x, hx, h1, hr⟩ := hc (off + c) u hu
              exact ⟨x, by rw [Nat.add_assoc]; exact hx, h1, hr⟩
            · simp at hu)
          have hlen : ((e.cells.drop off).take (P.cellsOf t)).length = P.cellsOf t := by simp; omega
          rw [hlen] at h1
          refine ⟨.agg ⟨xs⟩, ?_, .agg h2.1 h2.2 h3⟩
          simp only [loadVar, Sem.run_bind, run_isAgg hg, Result.andThen_ok, if_true, run_sizeOf' hd, h1, Sem.run_pure]
        | false =>
          simp only at h
          obtain ⟨x, hx, _, hr⟩ := hc off v h
          refine ⟨x, ?_, hr⟩
          simp only [loadVar, Sem.run_bind, run_isAgg hg, Result.andThen_ok, Bool.false_eq_true, if_false, run_load, hx]
    · simp at h
end
end Go.Ev
namespace Go.Ev
section
variable {P : Program} {I : Imm} {w : World} {φ : Phi}
theorem wr_eq (k : IntKind) (n : Int) : wr k n = k.wrap n := by
  unfold wr
  split
  · split
    · rename_i h
      simp only [IntKind.wrap, IntKind.bits, IntKind.signed, Bool.true_and]
      obtain ⟨h1, h2⟩ := h
      by_cases hn : 0 ≤ n
      · have : n % (2 ^ 64 : Int) = n := by omega
        simp only [this]
        rw [if_neg (by simp; omega)]
      · have : n % (2 ^ 64 : Int) = n + 2 ^ 64 := by omega
        simp only [this]
        rw [if_pos (by simp; omega)]
        omega
    · rfl
  · rfl
theorem intBin_sound {op : BinOp} {k : IntKind} {a b : Int} {v : V} (h : intBin op k a b = some v) (hs : op ≠ .shl ∧ op ≠ .shr) (t : TypeId) :
    ∃ x, (binOp op t (.int k a) (.int k b)).run P w = .ok x w ∧ Rel P I w φ v x := by
  unfold intBin at h
  cases op <;> simp only [reduceCtorEq, Option.some.injEq] at h <;> try (subst h)
  case add => exact ⟨.int k (k.wrap (a + b)), by simp only [binOp, ne_eq, not_true_eq_false, if_false, Op.intArith, Op.intDiv, Op.intBits, Op.intCmp]; rfl, .p (by rw [wr_eq]; exact .int _ _)⟩
  case sub => exact ⟨.int k (k.wrap (a - b)), by simp only [binOp, ne_eq, not_true_eq_false, if_false, Op.intArith, Op.intDiv, Op.intBits, Op.intCmp]; rfl, .p (by rw [wr_eq]; exact .int _ _)⟩
  case mul => exact ⟨.int k (k.wrap (a * b)), by simp only [binOp, ne_eq, not_true_eq_false, if_false, Op.intArith, Op.intDiv, Op.intBits, Op.intCmp]; rfl, .p (by rw [wr_eq]; exact .int _ _)⟩
  case quo =>
    split at h
    · simp at h
    · rename_i hb
      simp only [Option.some.injEq] at h; subst h
      exact ⟨.int k (k.wrap (a.tdiv b)), by simp only [binOp, ne_eq, not_true_eq_false, if_false, Op.intDiv, hb]; rfl, .p (by rw [wr_eq]; exact .int _ _)⟩
  case rem =>
    split at h
    · simp at h
    · rename_i hb
      simp only [Option.some.injEq] at h; subst h
      exact ⟨.int k (a.tmod b), by simp only [binOp, ne_eq, not_true_eq_false, if_false, Op.intDiv, hb]; rfl, .p (.int _ _)⟩
  case and => exact ⟨.int k (k.wrap ((BitVec.ofInt k.bits a &&& BitVec.ofInt k.bits b).toNat)), by simp only [binOp, ne_eq, not_true_eq_false, if_false, Op.intArith, Op.intDiv, Op.intBits, Op.intCmp]; rfl, .p (by rw [wr_eq]; exact .int _ _)⟩
  case or => exact ⟨.int k (k.wrap ((BitVec.ofInt k.bits a ||| BitVec.ofInt k.bits b).toNat)), by simp only [binOp, ne_eq, not_true_eq_false, if_false, Op.intArith, Op.intDiv, Op.intBits, Op.intCmp]; rfl, .p (by rw [wr_eq]; exact .int _ _)⟩
  case xor => exact ⟨.int k (k.wrap ((BitVec.ofInt k.bits a ^^^ BitVec.ofInt k.bits b).toNat)), by simp only [binOp, ne_eq, not_true_eq_false, if_false, Op.intArith, Op.intDiv, Op.intBits, Op.intCmp]; rfl, .p (by rw [wr_eq]; exact .int _ _)⟩
  case andNot => exact ⟨.int k (k.wrap ((BitVec.ofInt k.bits a &&& ~~~BitVec.ofInt k.bits b).toNat)), by simp only [binOp, ne_eq, not_true_eq_false, if_false, Op.intArith, Op.intDiv, Op.intBits, Op.intCmp]; rfl, .p (by rw [wr_eq]; exact .int _ _)⟩
  case eql => exact ⟨.bool (a == b), by simp only [binOp, ne_eq, not_true_eq_false, if_false, Op.intArith, Op.intDiv, Op.intBits, Op.intCmp]; rfl, .p (.bool _)⟩
  case neq => exact ⟨.bool (a != b), by simp only [binOp, ne_eq, not_true_eq_false, if_false, Op.intArith, Op.intDiv, Op.intBits, Op.intCmp]; rfl, .p (.bool _)⟩
  case lss => exact ⟨.bool (decide (a < b)), by simp only [binOp, ne_eq, not_true_eq_false, if_false, Op.intArith, Op.intDiv, Op.intBits, Op.intCmp]; rfl, .p (.bool _)⟩
  case leq => exact ⟨.bool (decide (a ≤ b)), by simp only [binOp, ne_eq, not_true_eq_false, if_false, Op.intArith, Op.intDiv, Op.intBits, Op.intCmp]; rfl, .p (.bool _)⟩
  case gtr => exact ⟨.bool (decide (a > b)), by simp only [binOp, ne_eq, not_true_eq_false, if_false, Op.intArith, Op.intDiv, Op.intBits, Op.intCmp]; rfl, .p (.bool _)⟩
  case geq => exact ⟨.bool (decide (a ≥ b)), by simp only [binOp, ne_eq, not_true_eq_false, if_false, Op.intArith, Op.intDiv, Op.intBits, Op.intCmp]; rfl, .p (.bool _)⟩
theorem shiftBin_sound {op : BinOp} {k k' : IntKind} {a b : Int} {v : V} (h : shiftBin op k a b = some v) (hs : op = .shl ∨ op = .shr) (t : TypeId) :
    ∃ x, (binOp op t (.int k a) (.int k' b)).run P w = .ok x w ∧ Rel P I w φ v x := by
  unfold shiftBin at h
  split at h
  · simp at h
  · rename_i hy
    rcases hs with rfl | rfl
    · simp only [Option.some.injEq] at h; subst h
      exact ⟨.int k (k.wrap (a * 2 ^ (min b.toNat k.bits))), by simp only [binOp, Op.shift, hy, if_false]; rfl, .p (by rw [wr_eq]; exact .int _ _)⟩
    · simp only [Option.some.injEq] at h; subst h
      exact ⟨.int k (a.fdiv (2 ^ (min b.toNat k.bits))), by simp only [binOp, Op.shift, hy, if_false]; rfl, .p (.int _ _)⟩
theorem str_run {op : BinOp} (t : TypeId) (a b : ByteArray) : binOp op t (.string a) (.string b) = Op.stringOp op a b ∨ op = .shl ∨ op = .shr := by
  cases op <;> simp [binOp]
theorem strBin_sound {op : BinOp} {a b : List UInt8} {v : V} (h : strBin op a b = some v) (t : TypeId) :
    ∃ x, (binOp op t (.string ⟨a.toArray⟩) (.string ⟨b.toArray⟩)).run P w = .ok x w ∧ Rel P I w φ v x := by
  unfold strBin at h
  have hr : binOp op t (.string ⟨a.toArray⟩) (.string ⟨b.toArray⟩) = Op.stringOp op ⟨a.toArray⟩ ⟨b.toArray⟩ := by
    rcases str_run (op := op) t ⟨a.toArray⟩ ⟨b.toArray⟩ with h' | rfl | rfl
    · exact h'
    · simp at h
    · simp at h
  rw [hr]
  simp only [Op.stringOp, ByteArray.toList_mk]
  cases op <;> simp only [reduceCtorEq, Option.some.injEq] at h <;> try (subst h)
  case add =>
    split at h
    · rename_i hl
      simp only [Option.some.injEq] at h; subst h
      refine ⟨.string (⟨a.toArray⟩ ++ ⟨b.toArray⟩), ?_, ?_⟩
      · have h1 : (⟨a.toArray⟩ : ByteArray).size = a.length := by simp [ByteArray.size]
        have h2 : (⟨b.toArray⟩ : ByteArray).size = b.length := by simp [ByteArray.size]
        rw [if_neg]
        · rfl
        · rw [h1, h2]
          unfold Ev.maxLen at hl
          simp [IntKind.max, IntKind.bits, IntKind.signed]
          omega
      · have : (⟨a.toArray⟩ ++ ⟨b.toArray⟩ : ByteArray) = ⟨(a ++ b).toArray⟩ := by
          apply ByteArray.ext
          simp
        rw [this]
        exact .p (.str _)
    · simp at h
  case eql => exact ⟨_, rfl, .p (.bool _)⟩
  case neq => exact ⟨_, rfl, .p (.bool _)⟩
  case lss => exact ⟨_, rfl, .p (.bool _)⟩
  case leq => exact ⟨_, rfl, .p (.bool _)⟩
  case gtr => exact ⟨_, rfl, .p (.bool _)⟩
  case geq => exact ⟨_, rfl, .p (.bool _)⟩
theorem elems_sound {D d : Nat} {e : TypeId} {xs ys : List V} {az bs : List Value}
    (hf : ∀ x y a b r, Rel P I w φ x a → Rel P I w φ y b → eqT P d e x y = some r → (Op.equalIn D e a b).run P w = .ok r w)
    (hx : All2 (Rel P I w φ) xs az) (hy : All2 (Rel P I w φ) ys bs) (ox : ∀ y ∈ az, y.oneCell' = true) (oy : ∀ y ∈ bs, y.oneCell' = true) :
    ∀ (k i : Nat) (r : Bool), eqElems (eqT P d e) P e xs ys k i = some r →
      (forIn (List.range' i k) ((none : Option Bool), ()) (fun i __s => do
              let __do_lift ← Go.part e ⟨az⟩ (i * P.cellsOf e)
              let __do_lift_1 ← Go.part e ⟨bs⟩ (i * P.cellsOf e)
              let __do_lift ← Op.equalIn D e __do_lift __do_lift_1
              if (!__do_lift) = true then pure (ForInStep.done (some false, ())) else pure (ForInStep.yield (none, ()))) : Sem (Option Bool × Unit)).run P w
        = .ok (if r then none else some false, ()) w
  | 0, i, r, h => by simp only [eqElems, Option.some.injEq] at h; subst h; simp
  | k + 1, i, r, h => by
    simp only [eqElems] at h
    cases h1 : Ev.part P e xs (i * P.cellsOf e) with
    | none => simp [h1] at h
    | some x =>
      cases h2 : Ev.part P e ys (i * P.cellsOf e) with
      | none => simp [h1, h2] at h
      | some y =>
        obtain ⟨a, ha, ra⟩ := part_sound hx ox h1
        obtain ⟨b, hb, rb⟩ := part_sound hy oy h2
        simp only [h1, h2] at h
        cases h3 : eqT P d e x y with
        | none => simp [h3] at h
        | some q =>
          have hq := hf x y a b q ra rb h3
          cases q with
          | true =>
            simp only [h3] at h
            have ih := elems_sound hf hx hy ox oy k (i + 1) r h
            rw [List.range'_succ, List.forIn_cons]
            simp only [Sem.run_bind, ha, hb, hq, Result.andThen_ok, Bool.not_true, Bool.false_eq_true, if_false, Sem.run_pure]
            simpa using ih
          | false =>
            simp only [h3, Option.some.injEq] at h
            subst h
            rw [List.range'_succ, List.forIn_cons]
            simp only [Sem.run_bind, ha, hb, hq, Result.andThen_ok, Bool.not_false, if_true, Sem.run_pure, Bool.false_eq_true, if_false]
theorem fields_sound {D d : Nat} {xs ys : List V} {az bs : List Value}
    (hf : ∀ t x y a b r, Rel P I w φ x a → Rel P I w φ y b → eqT P d t x y = some r → (Op.equalIn D t a b).run P w = .ok r w)
    (hx : All2 (Rel P I w φ) xs az) (hy : All2 (Rel P I w φ) ys bs) (ox : ∀ y ∈ az, y.oneCell' = true) (oy : ∀ y ∈ bs, y.oneCell' = true) :
    ∀ (fs : List Field) (r : Bool), eqFields (eqT P d) P xs ys fs = some r → (Op.eqFields D ⟨az⟩ ⟨bs⟩ fs).run P w = .ok r w
  | [], r, h => by simp only [Ev.eqFields, Option.some.injEq] at h; subst h; rfl
  | fd :: fs, r, h => by
    simp only [Ev.eqFields] at h
    by_cases hn : fd.name = "_"
    · simp only [hn, if_true] at h
      simp only [Op.eqFields, hn, ne_eq, not_true_eq_false, if_false]
      exact fields_sound hf hx hy ox oy fs r h
    · simp only [hn, if_false] at h
      cases h1 : Ev.part P fd.type xs fd.offset with
      | none => simp [h1] at h
      | some x =>
        cases h2 : Ev.part P fd.type ys fd.offset with
        | none => simp [h1, h2] at h
        | some y =>
          obtain ⟨a, ha, ra⟩ := part_sound hx ox h1
          obtain ⟨b, hb, rb⟩ := part_sound hy oy h2
          simp only [h1, h2] at h
          cases h3 : eqT P d fd.type x y with
          | none => simp [h3] at h
          | some q =>
            have hq := hf fd.type x y a b q ra rb h3
            simp only [Op.eqFields, hn, ne_eq, not_false_eq_true, if_true, Sem.run_bind, ha, hb, hq, Result.andThen_ok]
            cases q with
            | true =>
              simp only [h3] at h
              simpa using fields_sound hf hx hy ox oy fs r h
            | false =>
              simp only [h3, Option.some.injEq] at h
              subst h
              simp
theorem eqT_sound : ∀ (d D : Nat) (t : TypeId) (x y : V) (a b : Value) (r : Bool), d ≤ D → Rel P I w φ x a → Rel P I w φ y b → eqT P d t x y = some r → (Op.equalIn D t a b).run P w = .ok r w
  | 0, D, t, x, y, a, b, r, _, _, _, h => by simp [eqT] at h
  | d + 1, 0, t, x, y, a, b, r, hD, _, _, h => by omega
  | d + 1, D + 1, t, x, y, a, b, r, hD, hx, hy, h => by
    simp only [eqT] at h
    cases hu : P.underlying t with
    | none => simp [hu] at h
    | some de =>
      simp only [hu] at h
      cases de with
      | bool =>
        simp only at h
        split at h
        · rw [rel_bool hx, rel_bool hy]
          simp only [Option.some.injEq] at h; subst h
          simp [Op.equalIn, run_underlying hu]
        · simp at h
      | int k =>
        simp only at h
        split at h
        · split at h
          · rename_i hk
            subst hk
            rw [rel_int hx, rel_int hy]
            simp only [Option.some.injEq] at h; subst h
            simp [Op.equalIn, run_underlying hu]
          · simp at h
        · simp at h
      | string =>
        simp only at h
        split at h
        · rw [rel_str hx, rel_str hy]
          simp only [Option.some.injEq] at h; subst h
          rw [run_equalIn_string w D t _ _ hu]
          simp
        · simp at h
      | interface ms =>
        simp only at h
        split at h
        · rw [rel_nilI hx, rel_nilI hy]
          simp only [Option.some.injEq] at h; subst h
          simp [Op.equalIn, run_underlying hu]
        · obtain ⟨z, rfl, _⟩ := rel_ifc hy
          rw [rel_nilI hx]
          simp only [Option.some.injEq] at h; subst h
          simp [Op.equalIn, run_underlying hu]
        · obtain ⟨z, rfl, _⟩ := rel_ifc hx
          rw [rel_nilI hy]
          simp only [Option.some.injEq] at h; subst h
          simp [Op.equalIn, run_underlying hu]
        · simp at h
      | pointer el =>
        simp only at h
        split at h
        · rw [rel_nilP hx, rel_nilP hy]
          simp only [Option.some.injEq] at h; subst h
          simp [Op.equalIn, run_underlying hu]
        · obtain ⟨l, _, rfl⟩ := rel_ptr hy
          rw [rel_nilP hx]
          simp only [Option.some.injEq] at h; subst h
          simp [Op.equalIn, run_underlying hu]
        · obtain ⟨l, _, rfl⟩ := rel_ptr hx
          rw [rel_nilP hy]
          simp only [Option.some.injEq] at h; subst h
          simp [Op.equalIn, run_underlying hu]
        · simp at h
      | struct fs =>
        simp only at h
        split at h
        · obtain ⟨az, rfl, la, pa, oa⟩ := rel_agg hx
          obtain ⟨bs, rfl, lb, pb, ob⟩ := rel_agg hy
          split at h
          · simp at h
          · rename_i hst
            have hfo : P.fieldsOf t = fs := by unfold Program.fieldsOf; rw [hu]
            rw [run_equalIn_struct w D t ⟨az⟩ ⟨bs⟩ (by rw [hfo]; exact hu) (by simpa using hst), hfo]
            exact fields_sound (fun t x y a b r p q e => eqT_sound d D t x y a b r (by omega) p q e) ⟨la, pa⟩ ⟨lb, pb⟩ oa ob _ r h
        · simp at h
      | array n el =>
        simp only at h
        split at h
        · obtain ⟨az, rfl, la, pa, oa⟩ := rel_agg hx
          obtain ⟨bs, rfl, lb, pb, ob⟩ := rel_agg hy
          split at h
          · rename_i hs
            obtain ⟨bb, hb⟩ := Option.isSome_iff_exists.1 hs
            obtain ⟨dd, hdd⟩ := aggT_some hb
            simp only [Op.equalIn, Sem.run_bind, run_underlying hu, Result.andThen_ok, run_sizeOf' hdd, Std.Legacy.Range.forIn_eq_forIn_range', Std.Legacy.Range.size, Nat.sub_zero, Nat.add_sub_cancel, Nat.div_one]
            rw [elems_sound (fun x y a b r p q e => eqT_sound d D el x y a b r (by omega) p q e) ⟨la, pa⟩ ⟨lb, pb⟩ oa ob n 0 r h]
            cases r <;> simp
          · simp at h
        · simp at h
      | _ => simp at h
theorem un_sound {op : UnOp} {x v : V} {a : Value} (hx : Rel P I w φ x a) (h : un op x = some v) : ∃ b, (Op.unary op a).run P w = .ok b w ∧ Rel P I w φ v b := by
  unfold un at h
  split at h
  · rename_i k n
    rw [rel_int hx]
    simp only [Option.some.injEq] at h; subst h
    exact ⟨.int k (k.wrap (0 - n)), by simp only [Op.unary, Op.intArith]; rfl, .p (by rw [wr_eq]; exact .int _ _)⟩
  · rename_i b
    rw [rel_bool hx]
    simp only [Option.some.injEq] at h; subst h
    exact ⟨_, rfl, .p (.bool _)⟩
  · simp at h
end
end Go.Ev
namespace Go.Ev
section
variable {X : Env} {I : Imm} {w : World} {φ : Phi} {m : Mem}
def allI (w : World) : Imm := fun b _ => b < w.heap.size
def OpPost (X : Env) (I : Imm) (w : World) (φ : Phi) (m : Mem) : OpR → Result Next → Prop
  | .val v m', res => ∃ x w' I' φ', res = .ok (.value x) w' ∧ Ext I w φ I' w' φ' ∧ MemOk X.P I' w' φ' m' ∧ Rel X.P I' w' φ' v x ∧ m'.out.length = m.out.length
  | .skip m', res => ∃ w' I' φ', res = .ok .skip w' ∧ Ext I w φ I' w' φ' ∧ MemOk X.P I' w' φ' m' ∧ m'.out.length = m.out.length
  | .call f args m', res => callOk X.P f = true ∧ ∃ xs : List Value, res = .ok (.enter f ⟨xs⟩) w ∧ m'.out.length = m.out.length ∧
      ((∃ I', Ext I w φ I' w φ ∧ MemOk X.P I' w φ m' ∧ All2 (Rel X.P I' w φ) args xs) ∨
        (scalarRes X.P f = true ∧ args.any V.refs = false ∧ m' = m ∧ All2 (Rel X.P (allI w) w φ) args xs))
  | .defer f cap, res => ∃ ys : List Value, res = .ok (.defer { target := .fn (.func f) ⟨ys⟩, args := #[] }) w ∧ All2 (Rel X.P I w φ) cap ys
  | .panic v, res => ∃ x, res = .halt (.panic x) w ∧ Rel X.P I w φ v x
theorem post_same {v : V} {x : Value} {res : Result Next} (hm : MemOk X.P I w φ m) (hr : Rel X.P I w φ v x) (h : res = .ok (.value x) w) : OpPost X I w φ m (.val v m) res :=
  ⟨x, w, I, φ, h, Ext.refl _ _ _, hm, hr, rfl⟩
theorem run_v {P : Program} {s : Sem Value} {x : Value} {w' : World} (h : s.run P w = .ok x w') : (do pure (Next.value (← s)) : Sem Next).run P w = .ok (.value x) w' := by
  simp [h]
theorem eqGuard_ok {P : Program} {op : BinOp} {t : TypeId} {x y : Operand} {v u : V} {a b : Value} (hv : Rel P I w φ v a) (hu : Rel P I w φ u b)
    (h : (∃ k n k' n', v = .int k n ∧ u = .int k' n') ∨ (∃ s s', v = .str s ∧ u = .str s') ∨ eqOk P t (isConst x) (isConst y) v u = true ∧ (eqT P 8 t v u).isSome = true) : (eqGuard op t x y a b).run P w = .ok () w := by
  unfold eqGuard
  by_cases hop : op = .eql ∨ op = .neq
  rotate_left
  · cases op <;> first | rfl | exact absurd (.inl rfl) hop | exact absurd (.inr rfl) hop
  · rcases hop with rfl | rfl
    all_goals
     simp only [Bool.not_true, Bool.false_eq_true, if_false]
     rcases h with ⟨k, n, k', n', rfl, rfl⟩ | ⟨s, s', rfl, rfl⟩ | ⟨h1, h2⟩
     · rw [rel_int hv, rel_int hu]; rfl
     · rw [rel_str hv, rel_str hu]; rfl
     · cases v with
       | nilI =>
         rw [rel_nilI hv]
         cases u with
         | nilI =>
           rw [rel_nilI hu]
           clear h2 hv hu
           cases x <;> cases y <;> first | rfl | (exact absurd h1 (by simp [eqOk, isConst]))
         | ifc t v => obtain ⟨z, rfl, _⟩ := rel_ifc hu; rfl
         | _ => (simp only [eqT] at h2; split at h2 <;> simp at h2)
       | agg cs =>
         obtain ⟨az, rfl, _⟩ := rel_agg hv
         cases u with
         | agg ds =>
           obtain ⟨bs, rfl, _⟩ := rel_agg hu
           simp only [eqOk, Bool.not_eq_true'] at h1
           simp [h1]
         | _ => (simp only [eqT] at h2; split at h2 <;> simp at h2)
       | bool b0 => rw [rel_bool hv]; rfl
       | ifc t0 v0 => obtain ⟨z, rfl, _⟩ := rel_ifc hv; rfl
       | nilP => rw [rel_nilP hv]; rfl
       | ptr r j off => obtain ⟨l, _, rfl⟩ := rel_ptr hv; rfl
       | int k n => rw [rel_int hv]; rfl
       | str s => rw [rel_str hv]; rfl
       | _ => (simp only [eqT] at h2; split at h2 <;> simp at h2)
theorem bin_sound {op : BinOp} {t : TypeId} {x y : Operand} {v u r : V} {a b : Value} (hv : Rel X.P I w φ v a) (hu : Rel X.P I w φ u b) (h : bin X.P op t (isConst x) (isConst y) v u = some r) :
    ∃ z, (do eqGuard op t x y a b; binOp op t a b : Sem Value).run X.P w = .ok z w ∧ Rel X.P I w φ r z := by
  unfold bin at h
  split at h
  · rename_i k n k' n'
    have hg : (eqGuard op t x y a b).run X.P w = .ok () w := eqGuard_ok hv hu (.inl ⟨k, n, k', n', rfl, rfl⟩)
    rw [rel_int hv, rel_int hu] at hg ⊢
    simp only [Sem.run_bind, hg, Result.andThen_ok]
    by_cases hs : op = .shl ∨ op = .shr
    · refine shiftBin_sound (k' := k') (op := op) ?_ hs t
      rcases hs with rfl | rfl <;> exact h
    · have hs' : op ≠ .shl ∧ op ≠ .shr := ⟨fun e => hs (.inl e), fun e => hs (.inr e)⟩
      split at h
      · exact absurd (.inl rfl) hs
      · exact absurd (.inr rfl) hs
      · split at h
        · rename_i hk; subst hk
          exact intBin_sound h hs' t
        · simp at h
  · rename_i s s'
    have hg : (eqGuard op t x y a b).run X.P w = .ok () w := eqGuard_ok hv hu (.inr (.inl ⟨s, s', rfl, rfl⟩))
    rw [rel_str hv, rel_str hu] at hg ⊢
    simp only [Sem.run_bind, hg, Result.andThen_ok]
    exact strBin_sound h t
  · rename_i hni hns
    split at h
    · rename_i hok
      have key : ∀ q, eqT X.P 8 t v u = some q → (eqGuard op t x y a b).run X.P w = .ok () w ∧ (Op.equal t a b).run X.P w = .ok q w := fun q hq =>
        ⟨eqGuard_ok hv hu (.inr (.inr ⟨hok, by rw [hq]; rfl⟩)), eqT_sound 8 10000 t v u a b q (by omega) hv hu hq⟩
      have hform : ∀ q, eqT X.P 8 t v u = some q → (binOp .eql t a b = do pure (.bool (← Op.equal t a b))) ∧ (binOp .neq t a b = do pure (.bool (!(← Op.equal t a b)))) := by
        intro q hq
        cases v with
        | int k n =>
          cases u with
          | int k' n' => exact absurd rfl (hni _ _ _ _ rfl)
          | _ => (simp only [eqT] at hq; split at hq <;> simp at hq)
        | str s =>
          cases u with
          | str s' => exact absurd rfl (hns _ _ rfl)
          | _ => (simp only [eqT] at hq; split at hq <;> simp at hq)
        | bool b0 =>
          rw [rel_bool hv]
          cases u with
          | bool b1 => rw [rel_bool hu]; exact ⟨rfl, rfl⟩
          | _ => (simp only [eqT] at hq; split at hq <;> simp at hq)
        | nilI =>
          rw [rel_nilI hv]
          cases u with
          | nilI => rw [rel_nilI hu]; exact ⟨rfl, rfl⟩
          | ifc t v => obtain ⟨z, rfl, _⟩ := rel_ifc hu; exact ⟨rfl, rfl⟩
          | _ => (simp only [eqT] at hq; split at hq <;> simp at hq)
        | ifc t0 v0 =>
          obtain ⟨z, rfl, _⟩ := rel_ifc hv
          cases u with
          | nilI => rw [rel_nilI hu]; exact ⟨rfl, rfl⟩
          | _ => (simp only [eqT] at hq; split at hq <;> simp at hq)
        | nilP =>
          rw [rel_nilP hv]
          cases u with
          | nilP => rw [rel_nilP hu]; exact ⟨rfl, rfl⟩
          | ptr r j off => obtain ⟨l, _, rfl⟩ := rel_ptr hu; exact ⟨rfl, rfl⟩
          | _ => (simp only [eqT] at hq; split at hq <;> simp at hq)
        | ptr r j off =>
          obtain ⟨l, _, rfl⟩ := rel_ptr hv
          cases u with
          | nilP => rw [rel_nilP hu]; exact ⟨rfl, rfl⟩
          | _ => (simp only [eqT] at hq; split at hq <;> simp at hq)
        | agg cs =>
          obtain ⟨az, rfl, _⟩ := rel_agg hv
          cases u with
          | agg ds => obtain ⟨bs, rfl, _⟩ := rel_agg hu; exact ⟨rfl, rfl⟩
          | _ => (simp only [eqT] at hq; split at hq <;> simp at hq)
        | _ => (simp only [eqT] at hq; split at hq <;> simp at hq)
      split at h
      · cases hq : eqT X.P 8 t v u with
        | none => simp [hq] at h
        | some q =>
          simp only [hq, Option.map_some, Option.some.injEq] at h; subst h
          obtain ⟨k1, k2⟩ := key q hq
          refine ⟨.bool q, ?_, .p (.bool _)⟩
          simp only [Sem.run_bind, k1, Result.andThen_ok, (hform q hq).1, k2, Sem.run_pure]
      · cases hq : eqT X.P 8 t v u with
        | none => simp [hq] at h
        | some q =>
          simp only [hq, Option.map_some, Option.some.injEq] at h; subst h
          obtain ⟨k1, k2⟩ := key q hq
          refine ⟨.bool (!q), ?_, .p (.bool _)⟩
          simp only [Sem.run_bind, k1, Result.andThen_ok, (hform q hq).2, k2, Sem.run_pure]
      · simp at h
    · simp at h
end
end Go.Ev
namespace Go.Ev
section
variable {X : Env} {I : Imm} {w : World} {φ : Phi} {m : Mem} {t : Tm} {a : Act} {o : Oper} {r : OpR}
theorem op_move {x : Operand} (hm : MemOk X.P I w φ m) (ht : TmOk X I w φ t a) (hg : GlobOk X I w) (hop : o.op = .move x) (e : evOp X m t o = some r) :
    OpPost X I w φ m r ((execOp a.eval o).run X.P w) := by
  simp only [evOp, hop, Option.some.injEq] at e; subst e
  exact post_same hm (opd_rel ht hg x) (by simp only [execOp, hop]; rfl)
theorem op_pick {c x y : Operand} (hm : MemOk X.P I w φ m) (ht : TmOk X I w φ t a) (hg : GlobOk X I w) (hop : o.op = .pick c x y) (e : evOp X m t o = some r) :
    OpPost X I w φ m r ((execOp a.eval o).run X.P w) := by
  simp only [evOp, hop] at e
  split at e
  · rename_i b hb
    simp only [Option.some.injEq] at e; subst e
    have hc := opd_rel ht hg c
    rw [hb] at hc
    have hc := rel_bool hc
    refine post_same hm (x := if b then a.eval x else a.eval y) ?_ (by simp only [execOp, hop, hc, asBool]; cases b <;> simp)
    cases b
    · exact opd_rel ht hg y
    · exact opd_rel ht hg x
  · simp at e
theorem op_nilCheck {x : Operand} (hm : MemOk X.P I w φ m) (ht : TmOk X I w φ t a) (hg : GlobOk X I w) (hop : o.op = .nilCheck x) (e : evOp X m t o = some r) :
    OpPost X I w φ m r ((execOp a.eval o).run X.P w) := by
  simp only [evOp, hop] at e
  have hx := opd_rel ht hg x
  split at e
  · rename_i r0 j off h0
    simp only [Option.some.injEq] at e; subst e
    rw [h0] at hx
    refine post_same hm (x := a.eval x) hx ?_
    obtain ⟨l, _, he⟩ := rel_ptr hx
    simp only [execOp, hop, he]; rfl
  · rename_i e0 ty off h0
    simp only [Option.some.injEq] at e; subst e
    rw [h0] at hx
    refine post_same hm (x := a.eval x) hx ?_
    obtain ⟨b, o, xs, he, _⟩ := rel_cptr hx
    simp only [execOp, hop, he]; rfl
  · rename_i f b c h0
    simp only [Option.some.injEq] at e; subst e
    rw [h0] at hx
    refine post_same hm (x := a.eval x) hx ?_
    obtain ⟨xs, ys, he, _⟩ := rel_fn hx
    simp only [execOp, hop, he]; rfl
  · simp at e
theorem op_binOp {b : BinOp} {ty uy : TypeId} {x y : Operand} (hm : MemOk X.P I w φ m) (ht : TmOk X I w φ t a) (hg : GlobOk X I w) (hop : o.op = .binOp b ty x y uy) (e : evOp X m t o = some r) :
    OpPost X I w φ m r ((execOp a.eval o).run X.P w) := by
  simp only [evOp, hop] at e
  cases hb : bin X.P b ty (isConst x) (isConst y) (opd X t x) (opd X t y) with
  | none => simp [hb] at e
  | some v =>
    simp only [hb, Option.map_some, Option.some.injEq] at e; subst e
    obtain ⟨z, hz, hr⟩ := bin_sound (opd_rel ht hg x) (opd_rel ht hg y) hb
    exact post_same hm hr (by simp only [execOp, hop]; exact run_v hz)
theorem op_unOp {b : UnOp} {ty : TypeId} {x : Operand} (hm : MemOk X.P I w φ m) (ht : TmOk X I w φ t a) (hg : GlobOk X I w) (hop : o.op = .unOp b ty x) (e : evOp X m t o = some r) :
    OpPost X I w φ m r ((execOp a.eval o).run X.P w) := by
  simp only [evOp, hop] at e
  cases hb : un b (opd X t x) with
  | none => simp [hb] at e
  | some v =>
    simp only [hb, Option.map_some, Option.some.injEq] at e; subst e
    obtain ⟨z, hz, hr⟩ := un_sound (opd_rel ht hg x) hb
    exact post_same hm hr (by simp only [execOp, hop]; exact run_v hz)
theorem op_convert {src dst : TypeId} {x : Operand} (hm : MemOk X.P I w φ m) (ht : TmOk X I w φ t a) (hg : GlobOk X I w) (hop : o.op = .convert src dst x) (e : evOp X m t o = some r) :
    OpPost X I w φ m r ((execOp a.eval o).run X.P w) := by
  simp only [evOp, hop] at e
  split at e
  · rename_i d k k' n h1 h2 h3
    simp only [Option.some.injEq] at e; subst e
    have hx := opd_rel ht hg x
    rw [h3] at hx
    have hx := rel_int hx
    refine post_same hm (x := .int k (k.wrap n)) (by rw [wr_eq]; exact .p (.int _ _)) ?_
    simp only [execOp, hop]
    refine run_v ?_
    simp only [convert, Sem.run_bind, run_underlying h1, run_underlying h2, Result.andThen_ok, hx]
    rfl
  · simp at e
theorem op_makeInterface {ty : TypeId} {x : Operand} (hm : MemOk X.P I w φ m) (ht : TmOk X I w φ t a) (hg : GlobOk X I w) (hop : o.op = .makeInterface ty x) (e : evOp X m t o = some r) :
    OpPost X I w φ m r ((execOp a.eval o).run X.P w) := by
  simp only [evOp, hop] at e
  have hx := opd_rel ht hg x
  split at e
  · rename_i k k' n h1 h2
    simp only [Option.some.injEq] at e; subst e
    rw [h2] at hx
    have hx := rel_int hx
    refine post_same hm (x := .iface ty (.int k' n)) (.p (.ifc (.int _ _))) ?_
    simp only [execOp, hop]
    refine run_v ?_
    simp only [Instr.makeInterface, Sem.run_bind, run_underlying h1, Result.andThen_ok, hx]
    rfl
  · rename_i s h1 h2
    simp only [Option.some.injEq] at e; subst e
    rw [h2] at hx
    have hx := rel_str hx
    refine post_same hm (x := .iface ty (.string ⟨s.toArray⟩)) (.p (.ifc (.str _))) ?_
    simp only [execOp, hop]
    refine run_v ?_
    simp only [Instr.makeInterface, Sem.run_bind, run_underlying h1, Result.andThen_ok, hx]
    rfl
  · simp at e
theorem op_extract {x : Operand} {i : Nat} (hm : MemOk X.P I w φ m) (ht : TmOk X I w φ t a) (hg : GlobOk X I w) (hop : o.op = .extract x i) (e : evOp X m t o = some r) :
    OpPost X I w φ m r ((execOp a.eval o).run X.P w) := by
  simp only [evOp, hop] at e
  have hx := opd_rel ht hg x
  split at e
  · rename_i vs h0
    cases hv : vs[i]? with
    | none => simp [hv] at e
    | some v =>
      simp only [hv, Option.map_some, Option.some.injEq] at e; subst e
      rw [h0] at hx
      obtain ⟨xs, he, hl, hp⟩ := rel_tup hx
      obtain ⟨y, hy, hr⟩ := All2.get ⟨hl, hp⟩ hv
      refine post_same hm (x := y) hr ?_
      simp only [execOp, hop, he]
      refine run_v ?_
      have : (⟨xs⟩ : Array Value)[i]? = some y := by simpa using hy
      simp only [Instr.extract, this]
      rfl
  · simp at e
theorem op_fieldAddr {ty : TypeId} {x : Operand} {f : Nat} (hm : MemOk X.P I w φ m) (ht : TmOk X I w φ t a) (hg : GlobOk X I w) (hop : o.op = .fieldAddr ty x f) (e : evOp X m t o = some r) :
    OpPost X I w φ m r ((execOp a.eval o).run X.P w) := by
  simp only [evOp, hop] at e
  have hx := opd_rel ht hg x
  split at e
  · rename_i fs hu
    split at e
    · rename_i fd hf
      split at e
      · simp at e
      · rename_i hz
        have hsz : ∃ d, X.P.info? fd.type = some d := by
          cases hi : X.P.info? fd.type with
          | none => simp [Program.cellsOf, hi] at hz
          | some d => exact ⟨d, rfl⟩
        obtain ⟨di, hdi⟩ := hsz
        have run : ∀ (b off : Nat), (Instr.fieldAt ty (.pointer (some ⟨b, off, none⟩)) f).run X.P w = .ok (.pointer (some ⟨b, off + fd.offset, none⟩)) w := by
          intro b off
          simp only [Instr.fieldAt, Sem.run_bind, run_underlying hu, Result.andThen_ok, hf, Instr.sureAddr, Sem.run_pure, fieldPlace, run_sizeOf w hdi, hz, if_false, Sem.run_ite, add_off]
        split at e
        · rename_i r0 j off h0
          simp only [Option.some.injEq] at e; subst e
          rw [h0] at hx
          obtain ⟨l, hl, he⟩ := rel_ptr hx
          refine post_same hm (x := .pointer (some ⟨l.b, l.base + j * l.z + (off + fd.offset), none⟩)) (.ptr hl) ?_
          simp only [execOp, hop, he]
          refine run_v ?_
          rw [run, Nat.add_assoc]
        · rename_i e0 ety off h0
          simp only [Option.some.injEq] at e; subst e
          rw [h0] at hx
          obtain ⟨b, o', xs, he, h1, h2⟩ := rel_cptr hx
          refine post_same hm (x := .pointer (some ⟨b, o' + (off + fd.offset), none⟩)) (.p (.cptr xs h1 h2)) ?_
          simp only [execOp, hop, he]
          refine run_v ?_
          rw [run, Nat.add_assoc]
        · simp at e
    · simp at e
  · simp at e
theorem op_field {ty : TypeId} {x : Operand} {f : Nat} (hm : MemOk X.P I w φ m) (ht : TmOk X I w φ t a) (hg : GlobOk X I w) (hop : o.op = .field ty x f) (e : evOp X m t o = some r) :
    OpPost X I w φ m r ((execOp a.eval o).run X.P w) := by
  simp only [evOp, hop] at e
  have hx := opd_rel ht hg x
  split at e
  · rename_i fs hu
    split at e
    · rename_i fd cs hf h0
      cases hp : Ev.part X.P fd.type cs fd.offset with
      | none => simp [hp] at e
      | some v =>
        simp only [hp, Option.map_some, Option.some.injEq] at e; subst e
        rw [h0] at hx
        obtain ⟨xs, he, hl, hq, ho⟩ := rel_agg hx
        obtain ⟨y, hy, hr⟩ := part_sound ⟨hl, hq⟩ ho hp
        refine post_same hm (x := y) hr ?_
        simp only [execOp, hop, he]
        refine run_v ?_
        simp only [Instr.field, Sem.run_bind, run_underlying hu, Result.andThen_ok, hf, asAgg, Sem.run_pure, hy]
    · simp at e
  · simp at e
theorem idx_eq {v : V} {x : Value} {i : Int} (hx : Rel X.P I w φ v x) (h : idx v = some i) : ∃ k, x = .int k i := by
  cases v <;> simp only [idx, Option.some.injEq, reduceCtorEq] at h
  subst h; exact ⟨_, rel_int hx⟩
theorem bytes_get {s : List UInt8} {i : Nat} {b : UInt8} (hb : s[i]? = some b) : (⟨s.toArray⟩ : ByteArray)[i]? = some b := by
  have hlt : i < s.length := by
    rcases Nat.lt_or_ge i s.length with h | h
    · exact h
    · simp [List.getElem?_eq_none h] at hb
  have hsz : i < (⟨s.toArray⟩ : ByteArray).size := by simpa [ByteArray.size] using hlt
  have h1 : (⟨s.toArray⟩ : ByteArray)[i]? = some (⟨s.toArray⟩ : ByteArray)[i] := getElem?_pos (⟨s.toArray⟩ : ByteArray) i hsz
  rw [h1]
  have h2 : s[i]? = some s[i] := by simp [hlt]
  rw [hb] at h2
  rw [Option.some.inj h2]
  rfl
theorem op_index {ty : TypeId} {x y : Operand} (hm : MemOk X.P I w φ m) (ht : TmOk X I w φ t a) (hg : GlobOk X I w) (hop : o.op = .index ty x y) (e : evOp X m t o = some r) :
    OpPost X I w φ m r ((execOp a.eval o).run X.P w) := by
  simp only [evOp, hop] at e
  have hx := opd_rel ht hg x
  have hy := opd_rel ht hg y
  split at e
  · rename_i i s hi hu h0
    obtain ⟨k, hk⟩ := idx_eq hy hi
    split at e
    · rename_i h0i
      split at e
      · rename_i b hb
        simp only [Option.some.injEq] at e; subst e
        rw [h0] at hx
        have hx := rel_str hx
        refine post_same hm (x := .int .u8 b.toNat) (.p (.int _ _)) ?_
        simp only [execOp, hop, hx, hk]
        refine run_v ?_
        have hget := bytes_get hb
        simp only [Instr.index, asIntOf, Sem.run_bind, Sem.run_pure, Result.andThen_ok, run_underlying hu, h0i, if_true, hget]
      · simp at e
    · simp at e
  · rename_i i n el cs hi hu h0
    obtain ⟨k, hk⟩ := idx_eq hy hi
    split at e
    · rename_i h0i
      cases hp : Ev.part X.P el cs (i.toNat * X.P.cellsOf el) with
      | none => simp [hp] at e
      | some v =>
        simp only [hp, Option.map_some, Option.some.injEq] at e; subst e
        rw [h0] at hx
        obtain ⟨xs, he, hl, hq, ho⟩ := rel_agg hx
        obtain ⟨z, hz, hr⟩ := part_sound ⟨hl, hq⟩ ho hp
        have hag : ∃ b, aggT X.P el = some b := by
          unfold Ev.part at hp
          cases hh : aggT X.P el with
          | none => simp [hh] at hp
          | some b => exact ⟨b, rfl⟩
        obtain ⟨bb, hb⟩ := hag
        obtain ⟨d, hd⟩ := aggT_some hb
        refine post_same hm (x := z) hr ?_
        simp only [execOp, hop, he, hk]
        refine run_v ?_
        simp only [Instr.index, asIntOf, Sem.run_bind, Sem.run_pure, Result.andThen_ok, run_underlying hu, h0i, and_self, if_true, run_sizeOf' hd, hz]
    · simp at e
  · simp at e
theorem zero_run {P : Program} {ty : TypeId} {z : V} (h : zeroOf P ty = some z) : ∃ x, (zeroValue ty).run P w = .ok x w ∧ z = ofValue x ∧ ty ≠ 0 ∧ z.ok1 = true ∧ z.cells.all V.ok1 = true ∧ z.width = P.cellsOf ty := by
  unfold zeroOf at h
  cases hi : P.info? ty with
  | none => simp [hi] at h
  | some i =>
    cases hz : i.zero with
    | none => simp [hi, hz] at h
    | some x =>
      simp only [hi, hz, Option.bind_some] at h
      split at h
      · rename_i hc
        simp only [Option.some.injEq] at h
        subst h
        exact ⟨x, by simp [zeroValue, typeInfo, hi, hz], rfl, hc⟩
      · simp at h
theorem op_typeAssert {x : Operand} {xt ty : TypeId} {ok : Bool} (hm : MemOk X.P I w φ m) (ht : TmOk X I w φ t a) (hg : GlobOk X I w) (hop : o.op = .typeAssert x xt ty ok) (e : evOp X m t o = some r) :
    OpPost X I w φ m r ((execOp a.eval o).run X.P w) := by
  simp only [evOp, hop] at e
  have hx := opd_rel ht hg x
  split at e
  · rename_i ms k ty' v h1 h2 h3
    rw [h3] at hx
    obtain ⟨y, he, hy⟩ := rel_ifc hx
    split at e
    · rename_i hty
      subst hty
      simp only [Option.some.injEq] at e; subst e
      refine post_same hm (x := .tuple #[y, .bool true]) (.p ?_) ?_
      · have := All2.cons hy (All2.cons (RelP.bool (I := I) (w := w) true) .nil)
        exact .tup this.1 this.2
      · simp only [execOp, hop, he]
        refine run_v ?_
        simp only [Instr.typeAssert, Sem.run_bind, run_underlying h2, Result.andThen_ok, if_true]
        rfl
    · rename_i hty
      split at e
      · rename_i z hz
        simp only [Option.some.injEq] at e; subst e
        obtain ⟨zx, hzx, rfl, _⟩ := zero_run (w := w) hz
        refine post_same hm (x := .tuple #[zx, .bool false]) (.p ?_) ?_
        · have := All2.cons (relP_ofValue (I := I) (w := w) zx) (All2.cons (RelP.bool (I := I) (w := w) false) .nil)
          exact .tup this.1 this.2
        · simp only [execOp, hop, he]
          refine run_v ?_
          simp only [Instr.typeAssert, Sem.run_bind, run_underlying h2, Result.andThen_ok, hty, if_false, if_true, hzx]
          rfl
      · simp at e
  · simp at e
theorem bounds_eq {len : Nat} {lo hi : Option V} {p : Nat × Nat} (h : bounds len lo hi = some p) :
    ∃ l h' : Int, loOf lo = some l ∧ hiOf len hi = some h' ∧ 0 ≤ l ∧ l ≤ h' ∧ h' ≤ len ∧ p = (l.toNat, h'.toNat) := by
  unfold bounds at h
  split at h
  · rename_i l h' e1 e2
    split at h
    · rename_i hc
      simp only [Option.some.injEq] at h
      exact ⟨l, h', e1, e2, hc.1, hc.2.1, hc.2.2, h.symm⟩
    · simp at h
  · simp at h
theorem run_bounds {isSlice : Bool} {len cap : Nat} {lo hi : Option V} {lo' hi' : Option Value} {p : Nat × Nat} (hc : len ≤ cap) (h : bounds len lo hi = some p)
    (hlo : ∀ v, lo = some v → ∃ x, lo' = some x ∧ Rel X.P I w φ v x) (hlo0 : lo = none → lo' = none) (hhi : ∀ v, hi = some v → ∃ x, hi' = some x ∧ Rel X.P I w φ v x) (hhi0 : hi = none → hi' = none) :
    (Instr.sliceBounds isSlice len cap lo' hi' none).run X.P w = .ok (p.1, p.2, cap) w ∧ p.1 ≤ p.2 ∧ p.2 ≤ len := by
  obtain ⟨l, h', e1, e2, h0, h1, h2, rfl⟩ := bounds_eq h
  have hb : ∀ (x : Value) (i : Int) (y : Nat) (c : BoundsCode), (∃ k, x = .int k i) → 0 ≤ i → i ≤ y → (Instr.sliceBound x y c).run X.P w = .ok i.toNat w := by
    rintro x i y c ⟨k, rfl⟩ a b
    simp only [Instr.sliceBound, asIntOf, Sem.run_bind, Sem.run_pure, Result.andThen_ok, a, b, and_self, if_true]
  refine ⟨?_, by simp only; omega, by simp only; omega⟩
  have fh : (hi' = none ∧ h' = len) ∨ ∃ k, hi' = some (.int k h') := by
    cases hi with
    | none => exact .inl ⟨hhi0 rfl, by simpa [hiOf] using e2.symm⟩
    | some v =>
      obtain ⟨x, hx, hr⟩ := hhi v rfl
      obtain ⟨k, rfl⟩ := idx_eq hr e2
      exact .inr ⟨k, hx⟩
  have fl : (lo' = none ∧ l = 0) ∨ ∃ k, lo' = some (.int k l) := by
    cases lo with
    | none => exact .inl ⟨hlo0 rfl, by simpa [loOf] using e1.symm⟩
    | some v =>
      obtain ⟨x, hx, hr⟩ := hlo v rfl
      obtain ⟨k, rfl⟩ := idx_eq hr e1
      exact .inr ⟨k, hx⟩
  have r1 : ∀ k c, (Instr.sliceBound (.int k h') cap c).run X.P w = .ok h'.toNat w := fun k c => hb _ _ _ _ ⟨k, rfl⟩ (by omega) (by omega)
  have r2 : ∀ k c, (Instr.sliceBound (.int k l) h'.toNat c).run X.P w = .ok l.toNat w := fun k c => hb _ _ _ _ ⟨k, rfl⟩ (by omega) (by omega)
  unfold Instr.sliceBounds
  rcases fh with ⟨rfl, rfl⟩ | ⟨k, rfl⟩
  · rcases fl with ⟨rfl, rfl⟩ | ⟨k2, rfl⟩
    · simp
    · have := r2 k2 .sliceB
      simp only [Int.toNat_natCast] at this
      simp [this]
  · rcases fl with ⟨rfl, rfl⟩ | ⟨k2, rfl⟩
    · cases isSlice <;> simp [r1]
    · cases isSlice <;> simp [r1, r2]
end
end Go.Ev
namespace Go.Ev
section
variable {X : Env} {I : Imm} {w : World} {φ : Phi} {m : Mem} {t : Tm} {a : Act} {o : Oper} {r : OpR}
theorem slElem_some {P : Program} {t e : TypeId} (h : slElem P t = some e) : P.underlying t = some (.slice e) := by
  unfold slElem at h
  split at h
  · rename_i e' he; simp only [Option.some.injEq] at h; subst h; exact he
  · simp at h
theorem okT_size {P : Program} {e : TypeId} (h : okT P e = true) (w : World) : (sizeOf e).run P w = .ok (P.cellsOf e) w := by
  unfold okT at h
  cases hi : P.info? e with
  | none => simp [hi] at h
  | some i => exact run_sizeOf w hi
theorem opt_rel (ht : TmOk X I w φ t a) (hg : GlobOk X I w) (lo : Option Operand) :
    (∀ v, lo.map (opd X t) = some v → ∃ x, lo.map a.eval = some x ∧ Rel X.P I w φ v x) ∧ (lo.map (opd X t) = none → lo.map a.eval = none) := by
  cases lo with
  | none => exact ⟨fun v h => by simp at h, fun _ => rfl⟩
  | some x => exact ⟨fun v h => by simp only [Option.map_some, Option.some.injEq] at h; subst h; exact ⟨_, rfl, opd_rel ht hg x⟩, fun h => by simp at h⟩
theorem cut_cut (es : List V) (l h : Nat) : ∀ (j : Nat) (e : V), (cut es l (h - l))[j]? = some e → es[l + j]? = some e := fun j e he => (cut_get _ _ _ _ _ he).1
theorem extract_bytes (s : List UInt8) (l h : Nat) (hl : l ≤ h) (hh : h ≤ s.length) : (⟨s.toArray⟩ : ByteArray).extract l h = ⟨((s.drop l).take (h - l)).toArray⟩ := by
  apply ByteArray.ext
  apply Array.ext'
  simp [ByteArray.data_extract, List.extract_eq_take_drop]
theorem sliceAt_eq {ty : TypeId} {d : TypeDesc} (hu : X.P.underlying ty = some d) (hd : (∃ e, d = .slice e) ∨ d = .string) (x : Value) (lo hi : Option Value) :
    (Instr.sliceAt ty x lo hi none).run X.P w = (Instr.slice ty x lo hi none).run X.P w := by
  unfold Instr.sliceAt
  rcases hd with ⟨e, rfl⟩ | rfl <;> simp only [Sem.run_bind, run_underlying hu, Result.andThen_ok]
theorem op_slice {ty : TypeId} {x : Operand} {lo hi mx : Option Operand} (hm : MemOk X.P I w φ m) (ht : TmOk X I w φ t a) (hg : GlobOk X I w) (hop : o.op = .slice ty x lo hi mx) (e : evOp X m t o = some r) :
    OpPost X I w φ m r ((execOp a.eval o).run X.P w) := by
  cases mx with
  | some v => simp only [evOp, hop, reduceCtorEq] at e
  | none =>
    simp only [evOp, hop] at e
    have hx := opd_rel ht hg x
    obtain ⟨hl1, hl2⟩ := opt_rel ht hg lo
    obtain ⟨hh1, hh2⟩ := opt_rel ht hg hi
    split at e
    · rename_i s h0
      rw [h0] at hx
      have hx := rel_str hx
      split at e
      · rename_i p hu hb
        simp only [Option.some.injEq] at e; subst e
        obtain ⟨hr, h1, h2⟩ := run_bounds (X := X) (isSlice := false) (Nat.le_refl s.length) hb hl1 hl2 hh1 hh2
        refine post_same hm (x := .string ⟨((s.drop p.1).take (p.2 - p.1)).toArray⟩) (.p (.str _)) ?_
        simp only [execOp, hop, hx]
        refine run_v ?_
        rw [Option.map_none, sliceAt_eq hu (.inr rfl)]
        have hsz : (⟨s.toArray⟩ : ByteArray).size = s.length := by simp [ByteArray.size]
        simp only [Option.map_none, Instr.slice, Sem.run_bind, run_underlying hu, Result.andThen_ok, hsz, hr, Option.isSome_none, Bool.false_eq_true, if_false, Sem.run_pure]
        rw [extract_bytes s p.1 p.2 h1 h2]
      · simp at e
    · rename_i es h0
      rw [h0] at hx
      obtain ⟨ad, cap, he, hcap, hes⟩ := rel_sl hx
      split at e
      · rename_i el p hel hb
        split at e
        · rename_i hc
          obtain ⟨hw, hok⟩ := hc
          simp only [Option.some.injEq] at e; subst e
          have hu := slElem_some hel
          obtain ⟨hr, h1, h2⟩ := run_bounds (X := X) (isSlice := true) hcap hb hl1 hl2 hh1 hh2
          have run : (Instr.slice ty (.slice ad es.length cap) (lo.map a.eval) (hi.map a.eval) none).run X.P w =
              .ok (.slice (if cap = p.1 then ad else ad.map (·.add (p.1 * X.P.cellsOf el))) (p.2 - p.1) (cap - p.1)) w := by
            simp only [Instr.slice, Sem.run_bind, run_underlying hu, Result.andThen_ok, hr, okT_size hok, Sem.run_pure]
          have hlen := cut_length es p.1 (p.2 - p.1) (by omega)
          by_cases hzero : p.2 - p.1 = 0
          · have hnil : cut es p.1 (p.2 - p.1) = [] := by rw [hzero]; simp [cut]
            rw [hnil]
            refine post_same hm (x := .slice (if cap = p.1 then ad else ad.map (·.add (p.1 * X.P.cellsOf el))) 0 (cap - p.1)) (.p .slNil) ?_
            simp only [execOp, hop, he]
            refine run_v ?_
            rw [Option.map_none, sliceAt_eq hu (.inl ⟨_, rfl⟩), run, hzero]
          · rcases hes with rfl | ⟨b, of, z, xs, rfl, g1, g2, g3⟩
            · simp at h2; omega
            · have hz : z = X.P.cellsOf el := by
                have h00 : 0 < es.length := by omega
                have := g1 0 es[0] (by simp [h00])
                rw [← this]
                have := List.all_eq_true.1 hw es[0] (by simp)
                simpa using this
              have hne : ¬ cap = p.1 := by omega
              refine post_same hm (x := .slice (some ⟨b, of + p.1 * z, none⟩) (cut es p.1 (p.2 - p.1)).length (cap - p.1)) (.p ?_) ?_
              · refine .sl (z := z) (fun j c => xs (p.1 + j) c) (by omega) ?_ ?_ ?_
                · intro j e' hj; exact g1 _ _ (cut_get _ _ _ _ _ hj).1
                · intro j e' c v hj hcv
                  have := g2 _ _ c v (cut_get _ _ _ _ _ hj).1 hcv
                  rw [show of + p.1 * z + j * z + c = of + (p.1 + j) * z + c by rw [Nat.add_mul]; omega]
                  exact this
                · intro j e' c v hj hcv
                  exact g3 _ _ c v (cut_get _ _ _ _ _ hj).1 hcv
              · simp only [execOp, hop, he]
                refine run_v ?_
                rw [Option.map_none, sliceAt_eq hu (.inl ⟨_, rfl⟩), run, hlen, if_neg hne, hz, Option.map_some, add_off]
        · simp at e
      · simp at e
    · rename_i r0 rty off len h0
      rw [h0] at hx
      split at e
      · rename_i el p hel hb
        split at e
        · rename_i hc
          obtain ⟨hty, hok⟩ := hc
          simp only [Option.some.injEq] at e; subst e
          have hu := slElem_some hel
          have run : ∀ (ad : Option Addr) (cap : Nat), len ≤ cap → (Instr.slice ty (.slice ad len cap) (lo.map a.eval) (hi.map a.eval) none).run X.P w =
              .ok (.slice (if cap = p.1 then ad else ad.map (·.add (p.1 * X.P.cellsOf el))) (p.2 - p.1) (cap - p.1)) w ∧ p.1 ≤ p.2 ∧ p.2 ≤ len := by
            intro ad cap hcap
            obtain ⟨hr, h1, h2⟩ := run_bounds (X := X) (isSlice := true) hcap hb hl1 hl2 hh1 hh2
            refine ⟨?_, h1, h2⟩
            simp only [Instr.slice, Sem.run_bind, run_underlying hu, Result.andThen_ok, hr, okT_size hok, Sem.run_pure]
          rcases rel_rs hx with ⟨hl, rfl, rfl, he⟩ | ⟨l, hl, hcap, hz, he⟩ | ⟨l, ad, hl, hoff, rfl, he⟩
          · obtain ⟨hrun, h1, h2⟩ := run none 0 (Nat.le_refl _)
            have e1 : p.1 = 0 := by omega
            have e2 : p.2 = 0 := by omega
            refine post_same hm (x := .slice none 0 0) ?_ ?_
            · rw [e1, e2]; exact .rsNil hl
            · simp only [execOp, hop, he]
              refine run_v ?_
              rw [Option.map_none, sliceAt_eq hu (.inl ⟨_, rfl⟩), hrun, e1, e2]
              rfl
          · obtain ⟨hrun, h1, h2⟩ := run (some ⟨l.b, l.base + off * l.z, none⟩) (l.cap - off) (by omega)
            by_cases hend : l.cap - off = p.1
            · by_cases hp : 0 < off + p.1
              · have e2 : p.2 - p.1 = 0 := by omega
                refine post_same hm (x := .slice (some ⟨l.b, l.base + off * l.z, none⟩) 0 0) ?_ ?_
                · rw [e2]; exact .rsE hl hp
                · simp only [execOp, hop, he]
                  refine run_v ?_
                  rw [Option.map_none, sliceAt_eq hu (.inl ⟨_, rfl⟩), hrun, if_pos hend, e2, hend, Nat.sub_self]
              · have e0 : off = 0 := by omega
                have e1 : p.1 = 0 := by omega
                have e2 : p.2 = 0 := by omega
                subst e0
                refine post_same hm (x := .slice (some ⟨l.b, l.base + 0 * l.z, none⟩) 0 (l.cap - 0)) ?_ ?_
                · rw [e1, e2]; exact .rs hl (by omega) hz
                · simp only [execOp, hop, he]
                  refine run_v ?_
                  rw [Option.map_none, sliceAt_eq hu (.inl ⟨_, rfl⟩), hrun, e1, e2]
                  simp [Addr.add]
            · refine post_same hm (x := .slice (some ⟨l.b, l.base + (off + p.1) * l.z, none⟩) (p.2 - p.1) (l.cap - (off + p.1))) (.rs hl (by omega) hz) ?_
              simp only [execOp, hop, he]
              refine run_v ?_
              rw [Option.map_none, sliceAt_eq hu (.inl ⟨_, rfl⟩), hrun, if_neg hend, Option.map_some, add_off, Nat.sub_sub]
              rcases hty with rfl | h0
              · rw [hz, Nat.add_mul, Nat.add_assoc]
              · rw [h0]; simp
          · obtain ⟨hrun, h1, h2⟩ := run ad 0 (Nat.le_refl _)
            have e1 : p.1 = 0 := by omega
            have e2 : p.2 = 0 := by omega
            refine post_same hm (x := .slice ad 0 0) ?_ ?_
            · rw [e1, e2]; exact .rsE hl (by omega)
            · simp only [execOp, hop, he]
              refine run_v ?_
              rw [Option.map_none, sliceAt_eq hu (.inl ⟨_, rfl⟩), hrun, e1, e2]
              simp
        · simp at e
      · simp at e
    · rename_i h0
      rw [h0] at hx
      have he := rel_nilS hx
      split at e
      · rename_i el p hel hb
        split at e
        · rename_i hok
          simp only [Option.some.injEq] at e; subst e
          have hu := slElem_some hel
          obtain ⟨hr, h1, h2⟩ := run_bounds (X := X) (isSlice := true) (Nat.le_refl 0) hb hl1 hl2 hh1 hh2
          have e1 : p.1 = 0 := by omega
          have e2 : p.2 = 0 := by omega
          refine post_same hm (x := .slice none 0 0) (.p .nilS) ?_
          simp only [execOp, hop, he]
          refine run_v ?_
          rw [Option.map_none, sliceAt_eq hu (.inl ⟨_, rfl⟩)]
          simp only [Option.map_none, Instr.slice, Sem.run_bind, run_underlying hu, Result.andThen_ok, hr, okT_size hok, Sem.run_pure, e1, e2]
          rfl
        · simp at e
      · simp at e
    · simp at e
theorem op_indexAddr {ty : TypeId} {x y : Operand} (hm : MemOk X.P I w φ m) (ht : TmOk X I w φ t a) (hg : GlobOk X I w) (hop : o.op = .indexAddr ty x y) (e : evOp X m t o = some r) :
    OpPost X I w φ m r ((execOp a.eval o).run X.P w) := by
  simp only [evOp, hop] at e
  have hx := opd_rel ht hg x
  have hy := opd_rel ht hg y
  split at e
  · rename_i i el hi hu
    obtain ⟨k, hk⟩ := idx_eq hy hi
    have run : ∀ (b off len cap : Nat), 0 ≤ i → i < len → okT X.P el = true → (Instr.indexAt ty (.slice (some ⟨b, off, none⟩) len cap) (.int k i)).run X.P w = .ok (.pointer (some ⟨b, off + i.toNat * X.P.cellsOf el, none⟩)) w := by
      intro b off len cap h0 h1 hok
      simp only [Instr.indexAt, asIntOf, Sem.run_bind, Sem.run_pure, Result.andThen_ok, run_underlying hu, h0, h1, and_self, if_true, okT_size hok, add_off]
    split at e
    · rename_i r0 rty off len h0
      rw [h0] at hx
      split at e
      · rename_i hc
        obtain ⟨h1, h2, rfl, hok⟩ := hc
        simp only [Option.some.injEq] at e; subst e
        rcases rel_rs hx with ⟨hl, rfl, rfl, he⟩ | ⟨l, hl, hcap, hz, he⟩ | ⟨l, ad, hl, hoff, rfl, he⟩
        · simp at h2; omega
        · refine post_same hm (x := .pointer (some ⟨l.b, l.base + (off + i.toNat) * l.z + 0, none⟩)) (.ptr hl) ?_
          simp only [execOp, hop, he, hk]
          refine run_v ?_
          rw [run _ _ _ _ h1 h2 hok, hz, Nat.add_mul, Nat.add_zero, Nat.add_assoc]
        · simp at h2; omega
      · simp at e
    · rename_i es h0
      rw [h0] at hx
      obtain ⟨ad, cap, he, hcap, hes⟩ := rel_sl hx
      split at e
      · rename_i h1
        split at e
        · rename_i v hv
          split at e
          · rename_i hc
            obtain ⟨hw, hok⟩ := hc
            simp only [Option.some.injEq] at e; subst e
            rcases hes with rfl | ⟨b, of, z, xs, rfl, g1, g2, g3⟩
            · simp at hv
            · have hz : z = X.P.cellsOf el := by rw [← g1 _ v hv, hw]
              have hlt : i < es.length := by
                rcases Nat.lt_or_ge i.toNat es.length with h | h
                · omega
                · simp [List.getElem?_eq_none h] at hv
              refine post_same hm (x := .pointer (some ⟨b, (of + i.toNat * z) + 0, none⟩)) (.p ?_) ?_
              · exact .cptr (xs i.toNat) (fun c u hc => g2 _ v c u hv hc) (fun c u hc => g3 _ v c u hv hc)
              · simp only [execOp, hop, he, hk]
                refine run_v ?_
                rw [run _ _ _ _ h1 hlt hok, hz, Nat.add_zero]
          · simp at e
        · simp at e
      · simp at e
    · simp at e
  · rename_i i n el hi hu
    obtain ⟨k, hk⟩ := idx_eq hy hi
    split at e
    · rename_i hc
      obtain ⟨h1, h2, hok⟩ := hc
      have run : ∀ (b off : Nat), (Instr.indexAt ty (.pointer (some ⟨b, off, none⟩)) (.int k i)).run X.P w = .ok (.pointer (some ⟨b, off + i.toNat * X.P.cellsOf el, none⟩)) w := by
        intro b off
        simp only [Instr.indexAt, asIntOf, Sem.run_bind, Sem.run_pure, Result.andThen_ok, run_underlying hu, Instr.sureAddr, h1, h2, and_self, if_true, okT_size hok, add_off]
      split at e
      · rename_i r0 j off h0
        simp only [Option.some.injEq] at e; subst e
        rw [h0] at hx
        obtain ⟨l, hl, he⟩ := rel_ptr hx
        refine post_same hm (x := .pointer (some ⟨l.b, l.base + j * l.z + (off + i.toNat * X.P.cellsOf el), none⟩)) (.ptr hl) ?_
        simp only [execOp, hop, he, hk]
        refine run_v ?_
        rw [run, Nat.add_assoc]
      · rename_i e0 ety off h0
        simp only [Option.some.injEq] at e; subst e
        rw [h0] at hx
        obtain ⟨b, of, xs, he, g1, g2⟩ := rel_cptr hx
        refine post_same hm (x := .pointer (some ⟨b, of + (off + i.toNat * X.P.cellsOf el), none⟩)) (.p (.cptr xs g1 g2)) ?_
        simp only [execOp, hop, he, hk]
        refine run_v ?_
        rw [run, Nat.add_assoc]
      · simp at e
    · simp at e
  · simp at e
theorem op_load {ty : TypeId} {x : Operand} (hm : MemOk X.P I w φ m) (ht : TmOk X I w φ t a) (hg : GlobOk X I w) (hop : o.op = .load ty x) (e : evOp X m t o = some r) :
    OpPost X I w φ m r ((execOp a.eval o).run X.P w) := by
  simp only [evOp, hop] at e
  have hx := opd_rel ht hg x
  split at e
  · rename_i r0 j off h0
    rw [h0] at hx
    obtain ⟨l, hl, he⟩ := rel_ptr hx
    split at e
    · rename_i row hrow
      split at e
      · rename_i el hel
        cases hp : Ev.pick X.P ty row.ty el off with
        | none => simp [hp] at e
        | some v =>
          simp only [hp, Option.map_some, Option.some.injEq] at e; subst e
          obtain ⟨l', hl', hok⟩ := hm.live r0 row hrow (hm.zero r0 (by rw [hl]; simp))
          rw [hl] at hl'
          have := Option.some.inj hl'
          subst this
          obtain ⟨_, _, _, _, _, g6, _, _⟩ := hok
          obtain ⟨y, hy, hr⟩ := load_sound (P := X.P) (I := I) (φ := φ) (b := l.b) (o := l.base + j * l.z) (fun c u hc => by
            obtain ⟨z, z1, z2, z3⟩ := g6 j el c u hel hc
            refine ⟨z, z1, z2, ?_⟩
            split at z3
            · exact .p z3
            · exact z3.mono (fun _ _ h => h) (fun _ _ _ _ h => h) Phi.upto_le) hp
          refine post_same hm (x := y) hr ?_
          simp only [execOp, hop, he]
          refine run_v ?_
          simp only [Instr.loadAt, Sem.run_bind, Instr.sureAddr, Sem.run_pure, Result.andThen_ok, hy]
      · simp at e
    · simp at e
  · rename_i e0 ety off h0
    rw [h0] at hx
    obtain ⟨b, of, xs, he, g1, g2⟩ := rel_cptr hx
    cases hp : Ev.pick X.P ty ety e0 off with
    | none => simp [hp] at e
    | some v =>
      simp only [hp, Option.map_some, Option.some.injEq] at e; subst e
      obtain ⟨y, hy, hr⟩ := load_sound (P := X.P) (I := I) (φ := φ) (b := b) (o := of) (fun c u hc => ⟨xs c, (g1 c u hc).1, (g1 c u hc).2.2, .p (g2 c u hc)⟩) hp
      refine post_same hm (x := y) hr ?_
      simp only [execOp, hop, he]
      refine run_v ?_
      simp only [Instr.loadAt, Sem.run_bind, Instr.sureAddr, Sem.run_pure, Result.andThen_ok, hy]
  · simp at e
end
end Go.Ev
namespace Go.Ev
section
variable {X : Env} {I : Imm} {w : World} {φ : Phi} {m : Mem} {t : Tm} {a : Act} {o : Oper} {r : OpR}
theorem fillNil_sound {P : Program} (s : Nat) : ∀ (cs : List V) (xs : List Value) (i : Nat) (φ : Phi) (m : Mem), MemOk P I w φ m → All2 (Rel P I w φ) cs xs →
    ∃ φ', MemOk P I w φ' (fillNil m s i cs).1 ∧ Ext I w φ I w φ' ∧ All2 (Rel P I w φ') (fillNil m s i cs).2 xs ∧ (fillNil m s i cs).1.out.length = m.out.length
  | [], xs, i, φ, m, h, ha => ⟨φ, h, Ext.refl _ _ _, ha, rfl⟩
  | c :: cs, xs, i, φ, m, h, ha => by
    obtain ⟨x, ys, rfl, h0, ht⟩ := ha.head
    by_cases hn : c = .nilS
    · subst hn
      obtain ⟨m1, e1⟩ := step_newNil (P := P) h s i
      obtain ⟨φ2, m2, e2, a2, l2⟩ := fillNil_sound s cs ys (i + 1) _ _ m1 (ht.mono fun _ _ hr => hr.ext e1)
      refine ⟨φ2, m2, e1.trans e2, .cons ?_ a2, l2⟩
      rw [rel_nilS h0]
      exact .rsNil (e2.phi _ _ (Phi.put_same _ _ _))
    · have e : fillNil m s i (c :: cs) = ((fillNil m s (i + 1) cs).1, c :: (fillNil m s (i + 1) cs).2) := by
        cases c <;> first | rfl | exact absurd rfl hn
      rw [e]
      obtain ⟨φ2, m2, e2, a2, l2⟩ := fillNil_sound s cs ys (i + 1) _ _ h ht
      exact ⟨φ2, m2, e2, .cons (h0.ext e2) a2, l2⟩
theorem fillNil_length (s : Nat) : ∀ (cs : List V) (i : Nat) (m : Mem), (fillNil m s i cs).2.length = cs.length
  | [], _, _ => rfl
  | c :: cs, i, m => by
    by_cases hn : c = .nilS
    · subst hn; simp [fillNil, fillNil_length s cs]
    · have e : fillNil m s i (c :: cs) = ((fillNil m s (i + 1) cs).1, c :: (fillNil m s (i + 1) cs).2) := by
        cases c <;> first | rfl | exact absurd rfl hn
      rw [e]; simp [fillNil_length s cs]
theorem filled_sound {P : Program} (h : MemOk P I w φ m) (s : Nat) {v : V} {x : Value} (hr : Rel P I w φ v x) :
    ∃ φ', MemOk P I w φ' (filled m s v).1 ∧ Ext I w φ I w φ' ∧ Rel P I w φ' (filled m s v).2 x ∧ (filled m s v).1.out.length = m.out.length ∧
      (v.ok1 = true → (filled m s v).2.ok1 = true) ∧ (filled m s v).2.width = v.width := by
  cases v with
  | agg cs =>
    simp only [filled]
    split
    · obtain ⟨xs, rfl, hl, hp, ho⟩ := rel_agg hr
      obtain ⟨φ', h1, h2, h3, h4⟩ := fillNil_sound s cs xs 1 φ m h ⟨hl, hp⟩
      exact ⟨φ', h1, h2, .agg h3.1 h3.2 ho, h4, fun _ => rfl, fillNil_length s cs 1 m⟩
    · exact ⟨φ, h, Ext.refl _ _ _, hr, rfl, fun h => h, rfl⟩
  | nilS =>
    obtain ⟨m1, e1⟩ := step_newNil (P := P) h s 1
    refine ⟨_, m1, e1, ?_, rfl, fun _ => rfl, rfl⟩
    rw [rel_nilS hr]
    exact .rsNil (Phi.put_same _ _ _)
  | _ => exact ⟨φ, h, Ext.refl _ _ _, hr, rfl, fun h => h, rfl⟩
theorem new_var {P : Program} (h : MemOk P I w φ m) (hold : ∀ b o, I b o → b < w.heap.size) (s : Nat) {v : V} {x : Value} (hr : Rel P I w φ v x) (h1 : v.ok1 = true) {ty : TypeId} (h0 : ty ≠ 0)
    (hwd : v.width = P.cellsOf ty) :
    ∃ φ', MemOk P I (w.alloc (.cells x.cells ty)) φ' ((filled m s v).1.new s 0 ty false [(filled m s v).2]) ∧ Ext I w φ I (w.alloc (.cells x.cells ty)) φ' ∧
      Rel P I (w.alloc (.cells x.cells ty)) φ' (.ptr ((filled m s v).1.newRef s 0) 0 0) (.pointer (some ⟨w.heap.size, 0, none⟩)) ∧ ((filled m s v).1.new s 0 ty false [(filled m s v).2]).out.length = m.out.length := by
  obtain ⟨φ1, m1, e1, r1, l1, k1, w1⟩ := filled_sound h s hr
  obtain ⟨c1, c2, c3⟩ := rel_cells r1 (k1 h1)
  obtain ⟨m2, e2⟩ := step_new (I := I) (w := w) m1 s 0 ty false [(filled m s v).2] x.cells ty (P.cellsOf ty) 1 (by simp) rfl h0 (by omega)
    (fun j e hj => by
      cases j with
      | zero => simp at hj; subst hj; omega
      | succ j => simp at hj)
    (fun j e c u hj hc => by
      cases j with
      | succ j => simp at hj
      | zero =>
        simp at hj; subst hj
        obtain ⟨y, hy, hr⟩ := c1.get hc
        refine ⟨y, by simpa using hy, c2 y (List.mem_of_getElem? hy), ?_⟩
        simpa using hr)
    (fun o ho => by have := hold _ _ ho; omega)
  refine ⟨_, m2, e1.trans e2, ?_, l1⟩
  have := Rel.ptr (P := P) (I := I) (w := w.alloc (.cells x.cells ty)) (φ := φ1.put ((filled m s v).1.newRef s 0) (some ⟨w.heap.size, 0, P.cellsOf ty, 1⟩)) (r := (filled m s v).1.newRef s 0) (j := 0) (off := 0) (Phi.put_same _ _ _)
  simpa using this
theorem op_assign {x : Operand} (hm : MemOk X.P I w φ m) (ht : TmOk X I w φ t a) (hg : GlobOk X I w) (hop : o.op = .assign x) (e : evOp X m t o = some r) :
    OpPost X I w φ m r ((execOp a.eval o).run X.P w) := by
  simp only [evOp, hop, Option.some.injEq] at e; subst e
  obtain ⟨φ', h1, h2, h3, h4, _, _⟩ := filled_sound hm (o.dst.getD 0) (opd_rel ht hg x)
  exact ⟨a.eval x, w, I, φ', by simp only [execOp, hop]; rfl, h2, h1, h3, h4⟩
theorem op_alloc {ty : TypeId} (hm : MemOk X.P I w φ m) (hold : ∀ b o, I b o → b < w.heap.size) (hop : o.op = .alloc ty) (e : evOp X m t o = some r) :
    OpPost X I w φ m r ((execOp a.eval o).run X.P w) := by
  simp only [evOp, hop] at e
  split at e
  · rename_i z hz
    simp only [Option.some.injEq] at e; subst e
    obtain ⟨x, hx, rfl, h0, h1, _, h3⟩ := zero_run (w := w) hz
    obtain ⟨φ', p1, p2, p3, p4⟩ := new_var (P := X.P) (φ := φ) hm hold (o.dst.getD 0) (.p (relP_ofValue x)) h1 h0 h3
    refine ⟨_, _, I, φ', ?_, p2, p1, p3, p4⟩
    simp only [execOp, hop]
    refine run_v ?_
    simp only [Instr.alloc, Sem.run_bind, hx, Result.andThen_ok, newVar, newRow, run_newObj_alloc, Sem.run_pure]
  · simp at e
theorem op_box {ty : TypeId} {x : Operand} (hm : MemOk X.P I w φ m) (hold : ∀ b o, I b o → b < w.heap.size) (ht : TmOk X I w φ t a) (hg : GlobOk X I w) (hop : o.op = .box ty x) (e : evOp X m t o = some r) :
    OpPost X I w φ m r ((execOp a.eval o).run X.P w) := by
  simp only [evOp, hop] at e
  split at e
  · rename_i hc
    obtain ⟨h0, h1, h3⟩ := hc
    simp only [Option.some.injEq] at e; subst e
    obtain ⟨φ', p1, p2, p3, p4⟩ := new_var (P := X.P) (φ := φ) hm hold (o.dst.getD 0) (opd_rel ht hg x) h1 h0 h3
    refine ⟨_, _, I, φ', ?_, p2, p1, p3, p4⟩
    simp only [execOp, hop]
    refine run_v ?_
    simp only [Instr.box, Sem.run_bind, newVar, newRow, run_newObj_alloc, Result.andThen_ok, Sem.run_pure]
  · simp at e
theorem ok1_cells {v : V} (h : v.ok1 = true) : v.cells.length = v.width := by cases v <;> rfl
theorem splice_get (cs : List V) (off : Nat) (x : List V) (h : off + x.length ≤ cs.length) (i : Nat) : (splice cs off x)[i]? = if off ≤ i ∧ i < off + x.length then x[i - off]? else cs[i]? := by
  unfold splice
  rw [List.append_assoc]
  by_cases h1 : i < off
  · rw [if_neg (by omega), List.getElem?_append_left (by simp; omega), List.getElem?_take]; simp [h1]
  · rw [List.getElem?_append_right (by simp; omega)]
    have e1 : i - (cs.take off).length = i - off := by simp; omega
    rw [e1]
    by_cases h2 : i < off + x.length
    · rw [if_pos (by omega), List.getElem?_append_left (by omega)]
    · rw [if_neg (by omega), List.getElem?_append_right (by omega), List.getElem?_drop]
      congr 1; omega
theorem splice_length (cs : List V) (off : Nat) (x : List V) (h : off + x.length ≤ cs.length) : (splice cs off x).length = cs.length := by
  unfold splice; simp; omega
def CellsOk (R : V → Value → Prop) (cs : List V) (A : Array Value) : Prop := All2 R cs A.toList ∧ ∀ y ∈ A.toList, y.oneCell' = true
theorem all_cells {P : Program} {v : V} {x : Value} (h : Rel P I w φ v x) (h1 : v.ok1 = true) : CellsOk (Rel P I w φ) v.cells x.cells := ⟨(rel_cells h h1).1, (rel_cells h h1).2.1⟩
theorem put_cells {R : V → Value → Prop} {cs : List V} {A : Array Value} (h : CellsOk R cs A) {off : Nat} {u : List V} {y : Array Value} (hy : CellsOk R u y) (hle : off + u.length ≤ cs.length) :
    CellsOk R (splice cs off u) (y.zipIdx.foldl (fun cs (c, j) => cs.setIfInBounds (off + j) c) A) ∧ (y.zipIdx.foldl (fun cs (c, j) => cs.setIfInBounds (off + j) c) A).size = A.size := by
  have e : y.zipIdx.foldl (fun cs (c, j) => cs.setIfInBounds (off + j) c) A = (y.toList.zipIdx 0).foldl (fun cs (x : Value × Nat) => cs.setIfInBounds (off + x.2) x.1) A := by
    rw [← Array.foldl_toList, Array.toList_zipIdx]
  rw [e]
  obtain ⟨g1, g2⟩ := Great.foldl_set off y.toList 0 A
  have hul : u.length = y.toList.length := hy.1.1
  have hcl : cs.length = A.size := by have := h.1.1; simpa using this
  refine ⟨⟨⟨?_, ?_⟩, ?_⟩, g1⟩
  · rw [splice_length _ _ _ hle]; simp [g1, hcl]
  · intro i v x hv hx
    rw [splice_get _ _ _ hle] at hv
    rw [Array.getElem?_toList, g2 i] at hx
    simp only [Nat.add_zero] at hx
    by_cases hc : off ≤ i ∧ i < off + u.length
    · rw [if_pos hc] at hv
      rw [if_pos (by rw [← hul]; omega)] at hx
      exact hy.1.2 _ v x hv hx
    · rw [if_neg hc] at hv
      rw [if_neg (by rw [← hul]; omega)] at hx
      exact h.1.2 i v x hv (by simpa using hx)
  · intro z hz
    obtain ⟨i, hi⟩ := List.mem_iff_getElem?.1 hz
    rw [Array.getElem?_toList, g2 i] at hi
    split at hi
    · exact hy.2 z (List.mem_of_getElem? hi)
    · exact h.2 z (by rw [List.mem_iff_getElem?]; exact ⟨i, by simpa using hi⟩)
theorem fillParts_sound {P : Program} {ty : TypeId} {place : Nat → Option (Nat × Nat)}
    (hpl : ∀ i, place i = match P.underlying ty with
      | some (.struct fs) => (fs[i]?).map fun f => (f.offset, P.cellsOf f.type)
      | some (.array _ e) => some (i * P.cellsOf e, P.cellsOf e)
      | _ => none) :
    ∀ (ps : List (Nat × V)) (xs : List (Nat × Value)) (cs cs' : List V) (A : Array Value), ps.map (·.1) = xs.map (·.1) → All2 (Rel P I w φ) (ps.map (·.2)) (xs.map (·.2)) →
      CellsOk (Rel P I w φ) cs A → fillParts P ty cs ps = some cs' → ∃ A', Instr.fill place A xs = some A' ∧ CellsOk (Rel P I w φ) cs' A'
  | [], xs, cs, cs', A, h1, _, hA, he => by
    have : xs = [] := by cases xs with
      | nil => rfl
      | cons => simp at h1
    subst this
    simp only [fillParts, Option.some.injEq] at he; subst he
    exact ⟨A, rfl, hA⟩
  | (i, v) :: ps, xs, cs, cs', A, h1, h2, hA, he => by
    cases xs with
    | nil => simp at h1
    | cons p xs =>
      obtain ⟨i', x⟩ := p
      simp only [List.map_cons, List.cons.injEq] at h1
      obtain ⟨rfl, h1⟩ := h1
      simp only [List.map_cons] at h2
      obtain ⟨x', ys, hxy, hr, ht⟩ := h2.head
      simp only [List.cons.injEq] at hxy
      obtain ⟨rfl, rfl⟩ := hxy
      have hcl : cs.length = A.size := by have := hA.1.1; simpa using this
      have key : ∀ off size, place i = some (off, size) → v.ok1 = true → v.width = size → off + v.width ≤ cs.length → fillParts P ty (splice cs off v.cells) ps = some cs' →
          ∃ A', Instr.fill place A ((i, x) :: xs) = some A' ∧ CellsOk (Rel P I w φ) cs' A' := by
        intro off size hp ho hw hle hf
        have hc := all_cells hr ho
        have hxs := (rel_cells hr ho).2.2
        have hvl := ok1_cells ho
        obtain ⟨q1, q2⟩ := put_cells hA hc (off := off) (by omega)
        obtain ⟨A', a1, a2⟩ := fillParts_sound hpl ps xs _ cs' _ h1 ht q1 hf
        refine ⟨A', ?_, a2⟩
        rw [Instr.fill]
        simp only [hp]
        rw [if_neg (by simp; omega)]
        exact a1
      simp only [fillParts] at he
      have hpi := hpl i
      split at he
      · rename_i fs hu
        simp only [hu] at hpi
        split at he
        · rename_i f hf
          simp only [hf, Option.map_some] at hpi
          split at he
          · rename_i hc; exact key _ _ hpi hc.1 hc.2.1 hc.2.2 he
          · simp at he
        · simp at he
      · rename_i n el hu
        simp only [hu] at hpi
        split at he
        · rename_i hc; exact key _ _ hpi hc.1 hc.2.1 hc.2.2 he
        · simp at he
      · simp at he
theorem parts_map {P : Program} (ht : TmOk X I w φ t a) (hg : GlobOk X I w) (parts : List (Nat × Operand)) :
    (parts.map fun p => (p.1, opd X t p.2)).map (·.1) = (parts.map fun p => (p.1, a.eval p.2)).map (·.1) ∧
    All2 (Rel X.P I w φ) ((parts.map fun p => (p.1, opd X t p.2)).map (·.2)) ((parts.map fun p => (p.1, a.eval p.2)).map (·.2)) := by
  refine ⟨by simp, ?_⟩
  induction parts with
  | nil => exact .nil
  | cons p ps ih => exact .cons (opd_rel ht hg p.2) ih
theorem mapM_places {P : Program} : ∀ (fs : List Field), (fs.all fun f => (P.info? f.type).isSome) = true →
    fs.mapM (fun f => (P.info? f.type).map fun i => (f.offset, i.size)) = some (fs.map fun f => (f.offset, P.cellsOf f.type))
  | [], _ => rfl
  | f :: fs, h => by
    simp only [List.all_cons, Bool.and_eq_true] at h
    obtain ⟨i, hi⟩ := Option.isSome_iff_exists.1 h.1
    rw [List.mapM_cons, mapM_places fs h.2]
    simp [hi, Program.cellsOf]
theorem op_build {ty : TypeId} {parts : Array (Nat × Operand)} (hm : MemOk X.P I w φ m) (ht : TmOk X I w φ t a) (hg : GlobOk X I w) (hop : o.op = .build ty parts) (e : evOp X m t o = some r) :
    OpPost X I w φ m r ((execOp a.eval o).run X.P w) := by
  simp only [evOp, hop] at e
  split at e
  · rename_i z hz
    split at e
    · rename_i cs hcs
      split at e
      · rename_i hpo
        simp only [Option.some.injEq] at e; subst e
        obtain ⟨x, hx, hzx, h0, h1, _, h3⟩ := zero_run (w := w) hz
        have hzr : Rel X.P I w φ (.agg z) x := by rw [hzx]; exact .p (relP_ofValue x)
        have hA := all_cells hzr h1
        obtain ⟨p1, p2⟩ := parts_map (P := X.P) ht hg parts.toList
        have hinfo : ∃ i, X.P.info? ty = some i ∧ i.zero = some x := by
          simp only [zeroValue, typeInfo, Sem.run_bind, run_program, Result.andThen_ok] at hx
          cases hi : X.P.info? ty with
          | none => simp [hi] at hx
          | some i =>
            simp [hi] at hx
            cases hz : i.zero with
            | none => simp [hz] at hx
            | some y => simp [hz] at hx; exact ⟨i, rfl, by rw [hz, hx]⟩
        obtain ⟨it, hit, hitz⟩ := hinfo
        have hbuilt : ∃ A', X.P.built ty ((parts.map fun (i, x) => (i, a.eval x)).toList) = some A' ∧ CellsOk (Rel X.P I w φ) cs A' := by
          have hpl : (parts.map fun (i, x) => (i, a.eval x)).toList = parts.toList.map fun p => (p.1, a.eval p.2) := by simp
          rw [hpl]
          unfold Program.built
          simp only [hit]
          unfold partsOk at hpo
          split at hpo
          · rename_i fs hu
            simp only [hu, hitz, mapM_places fs.toList hpo]
            exact fillParts_sound (fun i => by simp only [hu]; simp) _ _ _ _ _ p1 p2 hA hcs
          · rename_i n el hu
            obtain ⟨ie, hie⟩ := Option.isSome_iff_exists.1 hpo
            have hsz : X.P.cellsOf el = ie.size := by simp [Program.cellsOf, hie]
            simp only [hu, hitz, hie]
            exact fillParts_sound (fun i => by simp only [hu, hsz]) _ _ _ _ _ p1 p2 hA hcs
          · simp at hpo
        obtain ⟨A', hA1, hA2⟩ := hbuilt
        have hagg : Rel X.P I w φ (.agg cs) (.agg A') := by
          obtain ⟨l⟩ := A'
          exact .agg hA2.1.1 hA2.1.2 hA2.2
        obtain ⟨φ', q1, q2, q3, q4, _, _⟩ := filled_sound hm (o.dst.getD 0) hagg
        refine ⟨.agg A', w, I, φ', ?_, q2, q1, q3, q4⟩
        simp only [execOp, hop]
        exact run_v (run_build w ty _ A' hA1)
      · simp at e
    · simp at e
  · simp at e
end
end Go.Ev
namespace Go.Ev
section
variable {X : Env} {I : Imm} {w : World} {φ : Phi} {m : Mem} {t : Tm} {a : Act} {o : Oper} {r : OpR}
def ElemsOk (I : Imm) (w : World) (size : Nat) (es : List V) (A : Array Value) : Prop :=
  es.length * size ≤ A.size ∧ ∀ (j : Nat) (e : V), es[j]? = some e → e.width = size ∧
    ∀ (c : Nat) (v : V), e.cells[c]? = some v → ∃ x, A[j * size + c]? = some x ∧ x.oneCell' = true ∧ RelP I w v x
theorem cells_lt {e : V} {c : Nat} {v : V} (h : e.cells[c]? = some v) : c < e.width := by
  have : c < e.cells.length := by
    rcases Nat.lt_or_ge c e.cells.length with h' | h'
    · exact h'
    · simp [List.getElem?_eq_none h'] at h
  cases e <;> simpa [V.width, V.cells] using this
theorem get_lt {α : Type} {l : List α} {j : Nat} {e : α} (h : l[j]? = some e) : j < l.length := by
  rcases Nat.lt_or_ge j l.length with h' | h'
  · exact h'
  · simp [List.getElem?_eq_none h'] at h
theorem cells_pure {P : Program} {v : V} {x : Value} (h : Rel P I w φ v x) (h1 : v.ok1 = true) (hr : v.refs = false) (c : Nat) (u : V) (hu : v.cells[c]? = some u) :
    ∃ y, x.cells[c]? = some y ∧ y.oneCell' = true ∧ RelP I w u y := by
  obtain ⟨c1, c2, _⟩ := rel_cells h h1
  obtain ⟨y, hy, hrel⟩ := c1.get hu
  have ho := c2 y (List.mem_of_getElem? hy)
  refine ⟨y, by simpa using hy, ho, pure1 hrel ho ?_⟩
  cases v with
  | agg cs =>
    simp only [V.refs, List.any_eq_false] at hr
    simpa using hr u (List.mem_of_getElem? hu)
  | tup vs => simp [V.ok1] at h1
  | _ =>
    cases c with
    | succ c => simp [V.cells] at hu
    | zero => simp [V.cells] at hu; subst hu; exact hr
theorem fillElems_sound {P : Program} {size : Nat} : ∀ (ps : List (Nat × V)) (xs : List (Nat × Value)) (es es' : List V) (A : Array Value), ps.map (·.1) = xs.map (·.1) →
    All2 (Rel P I w φ) (ps.map (·.2)) (xs.map (·.2)) → (∀ p ∈ ps, p.2.refs = false) → ElemsOk I w size es A → fillElems size es ps = some es' →
    ∃ A', Instr.fill (fun i => some (i * size, size)) A xs = some A' ∧ ElemsOk I w size es' A' ∧ A'.size = A.size ∧ es'.length = es.length
  | [], xs, es, es', A, h1, _, _, hA, he => by
    have : xs = [] := by cases xs with
      | nil => rfl
      | cons => simp at h1
    subst this
    simp only [fillElems, Option.some.injEq] at he; subst he
    exact ⟨A, rfl, hA, rfl, rfl⟩
  | (i, v) :: ps, xs, es, es', A, h1, h2, h3, hA, he => by
    cases xs with
    | nil => simp at h1
    | cons p xs =>
      obtain ⟨i', x⟩ := p
      simp only [List.map_cons, List.cons.injEq] at h1
      obtain ⟨rfl, h1⟩ := h1
      simp only [List.map_cons] at h2
      obtain ⟨x', ys, hxy, hr, ht⟩ := h2.head
      simp only [List.cons.injEq] at hxy
      obtain ⟨rfl, rfl⟩ := hxy
      simp only [fillElems] at he
      split at he
      · rename_i hc
        obtain ⟨ho, hw, hlt⟩ := hc
        have hrefs := h3 (i, v) (by simp)
        have hxs := (rel_cells hr ho).2.2
        have hle : (i + 1) * size ≤ es.length * size := Nat.mul_le_mul_right _ hlt
        have e1 : (i + 1) * size = i * size + size := by rw [Nat.add_mul]; omega
        have hAle := hA.1
        have efold : x.cells.zipIdx.foldl (fun cs (c, j) => cs.setIfInBounds (i * size + j) c) A = (x.cells.toList.zipIdx 0).foldl (fun cs (x : Value × Nat) => cs.setIfInBounds (i * size + x.2) x.1) A := by
          rw [← Array.foldl_toList, Array.toList_zipIdx]
        obtain ⟨g1, g2⟩ := Great.foldl_set (i * size) x.cells.toList 0 A
        rw [← efold] at g1 g2
        have q : ElemsOk I w size (es.set i v) (x.cells.zipIdx.foldl (fun cs (c, j) => cs.setIfInBounds (i * size + j) c) A) := by
          refine ⟨by rw [g1]; simpa using hA.1, fun j e hj => ?_⟩
          by_cases hij : i = j
          · subst hij
            rw [List.getElem?_set_self hlt] at hj
            simp only [Option.some.injEq] at hj; subst hj
            refine ⟨hw, fun c u hu => ?_⟩
            obtain ⟨y, y1, y2, y3⟩ := cells_pure hr ho hrefs c u hu
            have hcl := cells_lt hu
            refine ⟨y, ?_, y2, y3⟩
            rw [g2]
            simp only [Nat.add_zero, Array.length_toList]
            rw [if_pos (by omega)]
            simpa using y1
          · rw [List.getElem?_set_ne hij] at hj
            obtain ⟨k1, k2⟩ := hA.2 j e hj
            refine ⟨k1, fun c u hu => ?_⟩
            obtain ⟨y, y1, y2, y3⟩ := k2 c u hu
            have hcl := cells_lt hu
            refine ⟨y, ?_, y2, y3⟩
            rw [g2]
            simp only [Nat.add_zero, Array.length_toList]
            rw [if_neg, y1]
            rintro ⟨b1, b2, _⟩
            rcases Nat.lt_or_gt_of_ne hij with h | h
            · have : (i + 1) * size ≤ j * size := Nat.mul_le_mul_right _ h
              omega
            · have : (j + 1) * size ≤ i * size := Nat.mul_le_mul_right _ h
              have : (j + 1) * size = j * size + size := by rw [Nat.add_mul]; omega
              omega
        obtain ⟨A', a1, a2, a3, a4⟩ := fillElems_sound ps xs _ es' _ h1 ht (fun p hp => h3 p (by simp [hp])) q he
        refine ⟨A', ?_, a2, by rw [a3, g1], by rw [a4]; simp⟩
        rw [Instr.fill]
        simp only
        rw [if_neg (by simp; omega)]
        exact a1
      · simp at he
theorem made_ok {P : Program} {z : V} {x : Value} {size : Nat} (hr : Rel P I w φ z x) (h1 : z.ok1 = true) (hrefs : z.refs = false) (hw : z.width = size) {n k : Nat} (hnk : n ≤ k) :
    ElemsOk I w size (List.replicate n z) (madeCells x.cells (k * size)) := by
  refine ⟨by simp only [List.length_replicate, size_madeCells]; exact Nat.mul_le_mul_right _ hnk, fun j e hj => ?_⟩
  rw [List.getElem?_replicate] at hj
  split at hj
  · rename_i hjn
    simp only [Option.some.injEq] at hj; subst hj
    refine ⟨hw, fun c u hu => ?_⟩
    obtain ⟨y, y1, y2, y3⟩ := cells_pure hr h1 hrefs c u hu
    have hcl := cells_lt hu
    refine ⟨y, ?_, y2, y3⟩
    have hsz := (rel_cells hr h1).2.2
    have hlt : j * size + c < k * size := by
      have : (j + 1) * size ≤ k * size := Nat.mul_le_mul_right _ (by omega)
      have : (j + 1) * size = j * size + size := by rw [Nat.add_mul]; omega
      omega
    have hmod : (j * size + c) % x.cells.size = c := by
      rw [hsz, hw, Nat.mul_comm, Nat.mul_add_mod]
      exact Nat.mod_eq_of_lt (by omega)
    unfold madeCells
    simp only [Array.getElem?_map, Array.getElem?_range, hlt, if_true, Option.map_some, hmod, getElem!_def, y1]
  · simp at hj
theorem zero_snap {P : Program} (hm : MemOk P I w φ m) {ty : TypeId} {z z' : V} (hz : zeroOf P ty = some z) (hs : snap m z = some z') :
    ∃ i x, P.info? ty = some i ∧ i.zero = some x ∧ ty ≠ 0 ∧ Rel P I w φ z' x := by
  obtain ⟨x, hx, rfl, h0, h1, _, h3⟩ := zero_run (w := w) hz
  have hp : RelP I w (ofValue x) x := relP_ofValue x
  have hno : ∀ (r : Ref) (ty : TypeId) (off len : Nat) (y : Value), RelP I w (.rs r ty off len) y → False := fun r ty off len y h => by cases h
  have hcov : Cov m φ I (ofValue x) := by
    have c1 : ∀ v y, RelP I w v y → Cov1 m φ I v := by
      intro v y hv r ty off len e
      subst e
      exact (hno _ _ _ _ _ hv).elim
    cases hv : ofValue x with
    | agg cs =>
      rw [hv] at hp
      cases hp with
      | agg hl hc _ =>
        intro v hvm
        obtain ⟨i, hi⟩ := List.mem_iff_getElem?.1 hvm
        obtain ⟨y, _, hy⟩ := All2.get (R := RelP I w) ⟨hl, hc⟩ hi
        exact c1 v y hy
    | _ => rw [hv] at hp; exact c1 _ _ hp
  have := snap_sound hm (fun _ _ h => h) (.p hp) hcov hs
  simp only [zeroValue, typeInfo, Sem.run_bind, run_program, Result.andThen_ok] at hx
  cases hi : P.info? ty with
  | none => simp [hi] at hx
  | some i =>
    simp [hi] at hx
    cases hz' : i.zero with
    | none => simp [hz'] at hx
    | some y => simp [hz'] at hx; subst hx; exact ⟨i, y, rfl, hz', h0, this⟩
theorem run_bs {P : Program} (w : World) (t e : TypeId) (len : Nat) (parts : Array (Nat × Value)) (cells : Array Value) (ie : TypeInfo) (z : Value)
    (hu : P.underlying t = some (.slice e)) (hie : P.info? e = some ie) (hz : ie.zero = some z) (hsmall : ¬ len * ie.size > 2 ^ 24)
    (h : Instr.fill (fun i => some (i * ie.size, ie.size)) (madeCells z.cells (len * ie.size)) parts.toList = some cells) :
    (Instr.buildSlice t len parts).run P w = .ok (.slice (some ⟨w.heap.size, 0, none⟩) len len) (w.alloc (.cells cells e)) := by
  unfold madeCells at h
  by_cases h0 : len * ie.size = 0
  · rw [h0] at h
    simp only [Array.range_zero', Array.map_empty] at h
    simp [Instr.buildSlice, run_underlying hu, sizeOf, typeInfo, hie, h0, h, newRow, Array.range_zero', Array.map_empty]
  · simp [Instr.buildSlice, run_underlying hu, sizeOf, typeInfo, zeroValue, hie, hz, hsmall, h0, h, newRow]
theorem new_row {P : Program} (h : MemOk P I w φ m) (hold : ∀ b o, I b o → b < w.heap.size) (s i : Nat) {es : List V} {A : Array Value} {ty : TypeId} (h0 : ty ≠ 0) {cap : Nat} (hcap : es.length ≤ cap) (hsz : cap * P.cellsOf ty ≤ A.size)
    (hA : ElemsOk I w (P.cellsOf ty) es A) :
    ∃ φ', MemOk P I (w.alloc (.cells A ty)) φ' (m.new s i ty true es) ∧ Ext I w φ I (w.alloc (.cells A ty)) φ' ∧ Rel P I (w.alloc (.cells A ty)) φ' (.rs (m.newRef s i) ty 0 es.length) (.slice (some ⟨w.heap.size, 0, none⟩) es.length cap) := by
  obtain ⟨m2, e2⟩ := step_new (I := I) (w := w) h s i ty true es A ty (P.cellsOf ty) cap hcap rfl h0 hsz (fun j e hj => (hA.2 j e hj).1)
    (fun j e c u hj hc => by
      obtain ⟨x, x1, x2, x3⟩ := (hA.2 j e hj).2 c u hc
      exact ⟨x, x1, x2, by simpa using x3⟩)
    (fun o ho => by have := hold _ _ ho; omega)
  refine ⟨_, m2, e2, ?_⟩
  have := Rel.rs (P := P) (I := I) (w := w.alloc (.cells A ty)) (φ := φ.put (m.newRef s i) (some ⟨w.heap.size, 0, P.cellsOf ty, cap⟩)) (r := m.newRef s i) (ty := ty) (off := 0) (len := es.length)
    (l := ⟨w.heap.size, 0, P.cellsOf ty, cap⟩) (Phi.put_same _ _ _) (by simpa using hcap) rfl
  simpa using this
theorem op_buildSlice {ty : TypeId} {n : Nat} {parts : Array (Nat × Operand)} (hm : MemOk X.P I w φ m) (hold : ∀ b o, I b o → b < w.heap.size) (ht : TmOk X I w φ t a) (hg : GlobOk X I w) (hop : o.op = .buildSlice ty n parts) (e : evOp X m t o = some r) :
    OpPost X I w φ m r ((execOp a.eval o).run X.P w) := by
  simp only [evOp, hop] at e
  split at e
  · rename_i el hel
    split at e
    · rename_i z vs hz hvs
      split at e
      · rename_i z' hz'
        split at e
        · rename_i hc
          obtain ⟨hw, hsmall, hall, hzr, hzo⟩ := hc
          split at e
          · rename_i es hes
            simp only [Option.some.injEq] at e; subst e
            have hu := slElem_some hel
            obtain ⟨ie, x, hie, hiz, h0, hzx⟩ := zero_snap hm hz hz'
            have hsize : X.P.cellsOf el = ie.size := by simp [Program.cellsOf, hie]
            have hopd : All2 (Rel X.P I w φ) (parts.toList.map fun p => opd X t p.2) (parts.toList.map fun p => a.eval p.2) := by
              have := opds_rel ht hg (parts.toList.map (·.2))
              simpa [mapOpd, List.map_map, Function.comp_def] using this
            obtain ⟨I', m1, e1, c1, s1⟩ := frzs_sound _ _ I m hm hopd
            have hsn := snaps_sound _ vs _ hm e1.imm hopd c1 hvs
            have hold' := e1.old hold
            have hlen : vs.length = parts.toList.length := by rw [hsn.1]; simp
            have hzx' := hzx.ext e1
            have hrefz : z'.refs = false := by simpa [elemOk] using hzr
            have hmade := made_ok (P := X.P) hzx' hzo hrefz hw (Nat.le_refl n)
            have hfst : ((parts.toList.map (·.1)).zip vs).map (·.1) = (parts.toList.map fun p => (p.1, a.eval p.2)).map (·.1) := by
              rw [List.map_fst_zip (by simp [hlen])]; simp
            have hsnd : ((parts.toList.map (·.1)).zip vs).map (·.2) = vs := by
              rw [List.map_snd_zip (by simp [hlen])]
            obtain ⟨A', f1, f2, f3, f4⟩ := fillElems_sound (P := X.P) (φ := φ) ((parts.toList.map (·.1)).zip vs) (parts.toList.map fun p => (p.1, a.eval p.2)) _ es _ hfst
              (by rw [hsnd]; simpa [List.map_map, Function.comp_def] using hsn)
              (fun p hp => by
                have hv : p.2 ∈ vs := (List.of_mem_zip hp).2
                have := List.all_eq_true.1 hall _ hv
                simpa [elemOk] using this) hmade hes
            have hesl : es.length = n := by rw [f4]; simp
            obtain ⟨φ', q1, q2, q3⟩ := new_row (P := X.P) (I := I') (w := w) (φ := φ) m1 hold' (o.dst.getD 0) 0 (ty := el) h0 (cap := n) (by omega) (by rw [f3, size_madeCells]; exact Nat.le_refl _) f2
            rw [hesl] at q3
            refine ⟨_, _, I', φ', ?_, e1.trans q2, q1, q3, by simpa using s1.1⟩
            simp only [execOp, hop]
            refine run_v (run_bs w ty el n _ A' ie x hu hie hiz (by rw [← hsize]; omega) ?_)
            rw [← hsize]
            simpa using f1
          · simp at e
        · simp at e
      · simp at e
    · simp at e
  · simp at e
theorem op_makeSlice {ty : TypeId} {l c : Operand} (hm : MemOk X.P I w φ m) (hold : ∀ b o, I b o → b < w.heap.size) (ht : TmOk X I w φ t a) (hg : GlobOk X I w) (hop : o.op = .makeSlice ty l c) (e : evOp X m t o = some r) :
    OpPost X I w φ m r ((execOp a.eval o).run X.P w) := by
  simp only [evOp, hop] at e
  split at e
  · rename_i el n k hel hn hk
    split at e
    · rename_i z hz
      split at e
      · rename_i z' hz'
        split at e
        · rename_i hc
          obtain ⟨h1, h2, h3, hw, hzr, hzo⟩ := hc
          simp only [Option.some.injEq] at e; subst e
          have hu := slElem_some hel
          obtain ⟨ie, x, hie, hiz, h0, hzx⟩ := zero_snap hm hz hz'
          have hsize : X.P.cellsOf el = ie.size := by simp [Program.cellsOf, hie]
          have hbytes : X.P.bytesOf el = ie.bytes := by simp [Program.bytesOf, hie]
          have hrefz : z'.refs = false := by simpa [elemOk] using hzr
          have hkn : n.toNat ≤ k.toNat := by omega
          have hmade := made_ok (P := X.P) hzx hzo hrefz hw hkn
          obtain ⟨φ', q1, q2, q3⟩ := new_row (P := X.P) (I := I) (w := w) (φ := φ) hm hold (o.dst.getD 0) 0 (ty := el) h0 (cap := k.toNat) (by simpa using hkn) (by rw [size_madeCells]; exact Nat.le_refl _) hmade
          rw [List.length_replicate] at q3
          have hl := opd_rel ht hg l
          have hcc := opd_rel ht hg c
          rw [hn] at hl
          rw [hk] at hcc
          refine ⟨_, _, I, φ', ?_, q2, q1, q3, rfl⟩
          simp only [execOp, hop, rel_int hl, rel_int hcc]
          have hkm : k.toNat * (ie.bytes + ie.size + 1) ≤ 1099511627776 := by rw [← hbytes, ← hsize]; simpa [Ev.maxLen] using h3
          have hk1 : k.toNat ≤ 1099511627776 := Nat.le_trans (Nat.le_mul_of_pos_right _ (by omega)) hkm
          have hb1 : k.toNat * ie.bytes ≤ 1099511627776 := Nat.le_trans (Nat.mul_le_mul_left _ (by omega)) hkm
          have hb2 : (ie.bytes : Int) * k ≤ 281474976710656 := by
            have e : (ie.bytes : Int) * k = ((k.toNat * ie.bytes : Nat) : Int) := by
              rw [Int.natCast_mul, Int.toNat_of_nonneg (by omega), Int.mul_comm]
            rw [e]; omega
          have hr := run_make (P := X.P) w ty el ie x hu hie hiz .i64 .i64 n k h1 h2 hb2 (by omega)
          rw [← hsize] at hr
          exact run_v hr
        · simp at e
      · simp at e
    · simp at e
  · simp at e
theorem op_makeFunc {fn : Fn} {first cap : Array Operand} (hm : MemOk X.P I w φ m) (ht : TmOk X I w φ t a) (hg : GlobOk X I w) (hop : o.op = .makeFunc fn first cap) (e : evOp X m t o = some r) :
    OpPost X I w φ m r ((execOp a.eval o).run X.P w) := by
  cases fn with
  | func f =>
    simp only [evOp, hop] at e
    split at e
    · rename_i fs hfs
      split at e
      · rename_i hall
        obtain ⟨hall, hok⟩ := hall
        simp only [Option.some.injEq] at e; subst e
        have h1 := opds_rel ht hg first.toList
        have h2 := opds_rel ht hg cap.toList
        obtain ⟨I', m1, e1, c1, s1⟩ := frzs_sound _ _ I m hm h1
        have hsn := snaps_sound _ fs _ hm e1.imm h1 c1 hfs
        refine ⟨.func (.func f) (first.map a.eval) (cap.map a.eval), w, I', φ, ?_, e1, m1, ?_, by simpa using s1.1⟩
        · simp only [execOp, hop, Instr.makeFunc]
          exact run_v rfl
        · have e2 := h2.mono fun _ _ hr => hr.ext e1
          have p1 : first.map a.eval = ⟨first.toList.map a.eval⟩ := by apply Array.ext'; simp
          have p2 : cap.map a.eval = ⟨cap.toList.map a.eval⟩ := by apply Array.ext'; simp
          rw [p1, p2]
          refine .fn hsn.1 (fun i v x a b => ?_) e2.1 e2.2
          have hv := List.mem_of_getElem? a
          exact pure_of (hsn.2 i v x a b) (by simpa [elemOk] using List.all_eq_true.1 hall v hv) (.inl (List.all_eq_true.1 hok v hv))
      · simp at e
    · simp at e
  | _ => simp [evOp, hop] at e
end
end Go.Ev
