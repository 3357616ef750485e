/- Part 9 of the proof: an evaluator of the program, proved sound against the model, and what the functions of the program compute. No condition but those each theorem states. -/
import Derived.Test.YtpocekfifokndaaDoorG2
import Derived.Test.YtpocekfifokndaaDoorG6
import Derived.Test.YtpocekfifokndaaDoorG3
import Derived.Test.YtpocekfifokndaaDoorG7
import Derived.Test.YtpocekfifokndaaDoorG8
set_option linter.unusedSimpArgs false
set_option linter.unusedVariables false
namespace Go.Proofs.YtpocekfifokndaaDoor
open Go Go.Ev Go.Pl
set_option maxRecDepth 100000
set_option maxHeartbeats 4000000
theorem D138n (own oM : Go.Ev.Rows) : ∃ k, evD X k 138 [.ptr ⟨1, 4, 0, 1⟩ 0 0, .ptr ⟨1, 5, 0, 1⟩ 0 0] [own, oM] none = some [own, oM] := by
  refine evD_of (X := X) (fn := Tryd.f138) Tryd.func138 rfl rfl ⟨by decide +kernel, Nat.le_of_ble_eq_true rfl, rfl, co138⟩ rfl ?_
  have hm : (enter [V.ptr ⟨1, 4, 0, 1⟩ 0 0, V.ptr ⟨1, 5, 0, 1⟩ 0 0] [own, oM]).m = ⟨.nil, [own, oM]⟩ := rfl
  have hd : (enter [V.ptr ⟨1, 4, 0, 1⟩ 0 0, V.ptr ⟨1, 5, 0, 1⟩ 0 0] [own, oM]).dfs = [] := rfl
  generalize enter [V.ptr ⟨1, 4, 0, 1⟩ 0 0, V.ptr ⟨1, 5, 0, 1⟩ 0 0] [own, oM] = s at *
  refine WL_k ?_
  intro K hK
  simp (maxSteps := 2000000) (disch := omega) only [SA, ofValue, ofCell, bin, intBin, un, idx, Go.Ev.builtin, calleeOf, V.isNilS, V.depthOk, depth1, V.ok1, V.isAgg, V.cells, isConst, Nat.reduceBEq, Nat.reduceEqDiff, ↓reduceIte, Nat.reduceLeDiff, Nat.reduceAdd, Nat.reduceMul, Nat.reduceSub, Nat.reduceLT, Int.reduceAdd, Int.reduceSub, Int.reduceMul, Int.reduceLT, Int.reduceLE, Int.reduceToNat, Int.reduceNeg, reduceIte, reduceCtorEq, SPx, hm]
  refine hK _ _ ⟨rfl, ?_⟩
  clear hK K
  repeat (first
    | with_reducible first | refine W_seq ?_ | refine W_skip ?_ | refine W_label ?_ | refine W_ret ?_ | refine W_exit ?_ | refine W_block ?_ | refine thenI ?_ | refine thenRet ?_ | refine thenExit ?_ | refine blockRet ?_ | refine blockI ?_ | refine blockExit ?_ | refine blockExitNe rfl ?_
    | (with_reducible refine W_region_k ?_
       intro K hK
       simp (maxSteps := 2000000) (disch := omega) only [SA, ofValue, ofCell, bin, intBin, un, idx, Go.Ev.builtin, calleeOf, V.isNilS, V.depthOk, depth1, V.ok1, V.isAgg, V.cells, isConst, Nat.reduceBEq, Nat.reduceEqDiff, ↓reduceIte, Nat.reduceLeDiff, Nat.reduceAdd, Nat.reduceMul, Nat.reduceSub, Nat.reduceLT, Int.reduceAdd, Int.reduceSub, Int.reduceMul, Int.reduceLT, Int.reduceLE, Int.reduceToNat, Int.reduceNeg, reduceIte, reduceCtorEq, SPx, bin, eqOk, eqT, isConst, Bool.or_true, Option.map_some]
       refine hK _ _ ?_
       clear hK K)
  )
  refine cnd (fun h => ?_) (fun h => ?_)
  · simp at h
  · refine gP @Nat.zero_add ?_
    exact ⟨.inl rfl, by simp [hd], rfl⟩
theorem D138p (own oM : Go.Ev.Rows) (k : Int) (x4 x5 : V) (h4 : (⟨own, [oM]⟩ : Mem).row ⟨1, 4, 0, 1⟩ = some ⟨1, 61, false, false, [x4]⟩) (h5 : (⟨own, [oM]⟩ : Mem).row ⟨1, 5, 0, 1⟩ = some ⟨1, 23, false, false, [x5]⟩) :
    ∃ j, evD X j 138 [.ptr ⟨1, 4, 0, 1⟩ 0 0, .ptr ⟨1, 5, 0, 1⟩ 0 0] [own, oM] (some (.ifc 23 (vi k))) =
      some [((own.upd 4 500 ⟨(own.get 4 500).g + 1, 0, true, false, []⟩).upd 4 0 ⟨1, 61, false, false, [.rs ⟨1, 4, 500, (own.get 4 500).g + 1⟩ 0 0 0]⟩).upd 5 0 ⟨1, 23, false, false, [vi k]⟩, oM] := by
  refine evD_of (X := X) (fn := Tryd.f138) Tryd.func138 rfl rfl ⟨by decide +kernel, Nat.le_of_ble_eq_true rfl, rfl, co138⟩ rfl ?_
  have hm : (enter [V.ptr ⟨1, 4, 0, 1⟩ 0 0, V.ptr ⟨1, 5, 0, 1⟩ 0 0] [own, oM]).m = ⟨.nil, [own, oM]⟩ := rfl
  have hd : (enter [V.ptr ⟨1, 4, 0, 1⟩ 0 0, V.ptr ⟨1, 5, 0, 1⟩ 0 0] [own, oM]).dfs = [] := rfl
  have t0 : (enter [V.ptr ⟨1, 4, 0, 1⟩ 0 0, V.ptr ⟨1, 5, 0, 1⟩ 0 0] [own, oM]).t.get 0 = .ptr ⟨1, 4, 0, 1⟩ 0 0 := rfl
  have t1 : (enter [V.ptr ⟨1, 4, 0, 1⟩ 0 0, V.ptr ⟨1, 5, 0, 1⟩ 0 0] [own, oM]).t.get 1 = .ptr ⟨1, 5, 0, 1⟩ 0 0 := rfl
  generalize enter [V.ptr ⟨1, 4, 0, 1⟩ 0 0, V.ptr ⟨1, 5, 0, 1⟩ 0 0] [own, oM] = s at *
  have h4' : (⟨.nil, [own, oM]⟩ : Mem).row ⟨1, 4, 0, 1⟩ = some ⟨1, 61, false, false, [x4]⟩ := by rw [row_outer _ _ _ _ (by simp), h4]
  have h5' : (⟨.nil, [own, oM]⟩ : Mem).row ⟨1, 5, 0, 1⟩ = some ⟨1, 23, false, false, [x5]⟩ := by rw [row_outer _ _ _ _ (by simp), h5]
  refine WL_k ?_
  intro K hK
  simp (maxSteps := 2000000) (disch := omega) only [SA, ofValue, ofCell, bin, intBin, un, idx, Go.Ev.builtin, calleeOf, V.isNilS, V.depthOk, depth1, V.ok1, V.isAgg, V.cells, isConst, Nat.reduceBEq, Nat.reduceEqDiff, ↓reduceIte, Nat.reduceLeDiff, Nat.reduceAdd, Nat.reduceMul, Nat.reduceSub, Nat.reduceLT, Int.reduceAdd, Int.reduceSub, Int.reduceMul, Int.reduceLT, Int.reduceLE, Int.reduceToNat, Int.reduceNeg, reduceIte, reduceCtorEq, SPx, hm]
  refine hK _ _ ⟨rfl, ?_⟩
  clear hK K
  repeat (first
    | with_reducible first | refine W_seq ?_ | refine W_skip ?_ | refine W_label ?_ | refine W_ret ?_ | refine W_exit ?_ | refine W_block ?_ | refine thenI ?_ | refine thenRet ?_ | refine thenExit ?_ | refine blockRet ?_ | refine blockI ?_ | refine blockExit ?_ | refine blockExitNe rfl ?_
    | (with_reducible refine W_region_k ?_
       intro K hK
       simp (maxSteps := 2000000) (disch := omega) only [SA, ofValue, ofCell, bin, intBin, un, idx, Go.Ev.builtin, calleeOf, V.isNilS, V.depthOk, depth1, V.ok1, V.isAgg, V.cells, isConst, Nat.reduceBEq, Nat.reduceEqDiff, ↓reduceIte, Nat.reduceLeDiff, Nat.reduceAdd, Nat.reduceMul, Nat.reduceSub, Nat.reduceLT, Int.reduceAdd, Int.reduceSub, Int.reduceMul, Int.reduceLT, Int.reduceLE, Int.reduceToNat, Int.reduceNeg, reduceIte, reduceCtorEq, SPx, bin, eqOk, eqT, isConst, Bool.or_true, Option.map_some]
       refine hK _ _ ?_
       clear hK K)
  )
  refine cnd (fun h => ?_) (fun h => ?_)
  · refine gPAS (aI @t0 <|aI @t1 <|aI @h4' <|aI @h5' <|aI @co133 <|aI @sr133 <|aI ((P133 k).iffx) <|aI @Mem.rows_new <|@Mem.rows_lit) ?_
    refine ⟨.inl rfl, by simp [hd], ?_⟩
    simp [Mem.new, Mem.set, outSet]
  · simp at h
theorem fin113 {oM : Go.Ev.Rows} {s : St} {es : List V} {k : Int} (hd : s.dfs = [(138, [.ptr ⟨1, 4, 0, 1⟩ 0 0, .ptr ⟨1, 5, 0, 1⟩ 0 0])]) (ho : s.m.out = [oM]) (h4 : s.t.get 4 = .ptr ⟨1, 4, 0, 1⟩ 0 0) (h5 : s.t.get 5 = .ptr ⟨1, 5, 0, 1⟩ 0 0)
    (r4 : s.m.row ⟨1, 4, 0, 1⟩ = some ⟨1, 61, false, false, [.sl es]⟩) (r5 : s.m.row ⟨1, 5, 0, 1⟩ = some ⟨1, 23, false, false, [vi k]⟩) :
    finQ X Tryd.f113 (.ret (.tup [.sl es, vi k]), [oM]) .ret s := by
  obtain ⟨t, ⟨own, out⟩, dfs⟩ := s
  dsimp only at hd ho h4 h5 r4 r5
  subst ho
  refine fin_ret1 (own := own) (vs := [.sl es, vi k]) hd (D138n own oM) ?_ rfl rfl
  simp (maxSteps := 2000000) (disch := omega) only [SA, ofValue, ofCell, bin, intBin, un, idx, Go.Ev.builtin, calleeOf, V.isNilS, V.depthOk, depth1, V.ok1, V.isAgg, V.cells, isConst, Nat.reduceBEq, Nat.reduceEqDiff, ↓reduceIte, Nat.reduceLeDiff, Nat.reduceAdd, Nat.reduceMul, Nat.reduceSub, Nat.reduceLT, Int.reduceAdd, Int.reduceSub, Int.reduceMul, Int.reduceLT, Int.reduceLE, Int.reduceToNat, Int.reduceNeg, reduceIte, reduceCtorEq, SPx, Tryd.results113, resVars, resVar, h4, h5, r4, r5]
theorem fin113p {oM : Go.Ev.Rows} {s : St} {x4 x5 : V} {k : Int} (hd : s.dfs = [(138, [.ptr ⟨1, 4, 0, 1⟩ 0 0, .ptr ⟨1, 5, 0, 1⟩ 0 0])]) (ho : s.m.out = [oM]) (h4 : s.t.get 4 = .ptr ⟨1, 4, 0, 1⟩ 0 0) (h5 : s.t.get 5 = .ptr ⟨1, 5, 0, 1⟩ 0 0)
    (r4 : s.m.row ⟨1, 4, 0, 1⟩ = some ⟨1, 61, false, false, [x4]⟩) (r5 : s.m.row ⟨1, 5, 0, 1⟩ = some ⟨1, 23, false, false, [x5]⟩) :
    finQ X Tryd.f113 (.ret (.tup [.sl [], vi k]), [oM]) (.panic (.ifc 23 (vi k))) s := by
  obtain ⟨t, ⟨own, out⟩, dfs⟩ := s
  dsimp only at hd ho h4 h5 r4 r5
  subst ho
  refine fin_panic1 (vs := [.rs ⟨1, 4, 500, (own.get 4 500).g + 1⟩ 0 0 0, vi k]) hd (D138p own oM k x4 x5 r4 r5) ?_ ?_ ?_
  · rw [← set_own _ [oM] 1 5 0 _ rfl, ← set_own _ [oM] 1 4 0 _ rfl, ← set_own _ [oM] 1 4 500 _ rfl]
    simp (maxSteps := 2000000) (disch := omega) only [SA, ofValue, ofCell, bin, intBin, un, idx, Go.Ev.builtin, calleeOf, V.isNilS, V.depthOk, depth1, V.ok1, V.isAgg, V.cells, isConst, Nat.reduceBEq, Nat.reduceEqDiff, ↓reduceIte, Nat.reduceLeDiff, Nat.reduceAdd, Nat.reduceMul, Nat.reduceSub, Nat.reduceLT, Int.reduceAdd, Int.reduceSub, Int.reduceMul, Int.reduceLT, Int.reduceLE, Int.reduceToNat, Int.reduceNeg, reduceIte, reduceCtorEq, SPx, Tryd.results113, resVars, resVar, h4, h5, r4, r5]
  · rw [← set_own _ [oM] 1 5 0 _ rfl, ← set_own _ [oM] 1 4 0 _ rfl, ← set_own _ [oM] 1 4 500 _ rfl]
    simp (maxSteps := 2000000) (disch := omega) only [SA, ofValue, ofCell, bin, intBin, un, idx, Go.Ev.builtin, calleeOf, V.isNilS, V.depthOk, depth1, V.ok1, V.isAgg, V.cells, isConst, Nat.reduceBEq, Nat.reduceEqDiff, ↓reduceIte, Nat.reduceLeDiff, Nat.reduceAdd, Nat.reduceMul, Nat.reduceSub, Nat.reduceLT, Int.reduceAdd, Int.reduceSub, Int.reduceMul, Int.reduceLT, Int.reduceLE, Int.reduceToNat, Int.reduceNeg, reduceIte, reduceCtorEq, SPx, SAx, resOf, X_own, mv_tup, mv2s_cons, mv2s_nil, mv2_int, cut, List.take_zero, List.drop_zero]
  · exact frzR_own (fun r ty off len hm => by
      simp [resOf, leaves, leaves2] at hm
      rw [hm.1]; rfl)
theorem M113 (g : FuncId) (cap : List V) (oM : Go.Ev.Rows) (r : Res) (hcap : cap.any V.loose = true) (hco : callOk Tryd.prog g = true) (hsr : scalarRes Tryd.prog g = false) (hg : ∀ own, AnsAt X g cap [own, oM] r)
    (R : Res) (hR : (∃ es, r = .ret (.sl es) ∧ R = .ret (.tup [.sl es, vi 0])) ∨ (∃ k, r = .panic (.ifc 23 (vi k)) ∧ R = .ret (.tup [.sl [], vi k]))) :
    AnsAt X 113 [vi 0, .fn g [] cap] [oM] R := by
  have hne : cap.isEmpty = false := by cases cap with | nil => simp at hcap | cons _ _ => rfl
  refine ⟨rfl, by simp [V.refs, V.loose, hne], fun v hv => ?_, ?_⟩
  · rcases hR with ⟨es, _, rfl⟩ | ⟨k, _, rfl⟩
    · injection hv with hv; subst hv; rfl
    · injection hv with hv; subst hv; rfl
  refine runsAt_of (X := X) (fn := Tryd.f113) Tryd.func113 rfl ⟨by decide +kernel, Nat.le_of_ble_eq_true rfl⟩ ?_
  have hd : (enter [vi 0, V.fn g [] cap] [oM]).dfs = [] := rfl
  have h0 : (enter [vi 0, V.fn g [] cap] [oM]).t.get 0 = vi 0 := rfl
  have h1 : (enter [vi 0, V.fn g [] cap] [oM]).t.get 1 = .fn g [] cap := rfl
  have hm : (enter [vi 0, V.fn g [] cap] [oM]).m = ⟨.nil, [oM]⟩ := rfl
  generalize enter [vi 0, V.fn g [] cap] [oM] = s at *
  refine gPA (aI @h0 <|aI @h1 <|@hm) ?_
  refine cnd (fun h => ?_) (fun h => ?_)
  · simp at h
  refine gPA (aI @h0 <|aI @h1 <|@hm) ?_
  have key : ∀ (m : Mem) (dst : Nat) (K KP : V → Mem → Prop), m.out = [oM] → CallQ X g cap m dst K KP = (match r with | .ret v => K v m | .panic v => KP v m) := by
    intro m dst K KP hmo
    have hh := hg m.own
    rw [← hmo] at hh
    cases r with
    | ret v => exact propext hh.iff
    | panic v => exact propext hh.panics
  with_reducible refine W_region_k ?_
  intro K hK
  simp (maxSteps := 2000000) (disch := omega) only [SA, ofValue, ofCell, bin, intBin, un, idx, Go.Ev.builtin, calleeOf, V.isNilS, V.depthOk, depth1, V.ok1, V.isAgg, V.cells, isConst, Nat.reduceBEq, Nat.reduceEqDiff, ↓reduceIte, Nat.reduceLeDiff, Nat.reduceAdd, Nat.reduceMul, Nat.reduceSub, Nat.reduceLT, Int.reduceAdd, Int.reduceSub, Int.reduceMul, Int.reduceLT, Int.reduceLE, Int.reduceToNat, Int.reduceNeg, reduceIte, reduceCtorEq, SPx, SAx, h0, h1, hm, hd, hco, hsr]
  rw [key _ _ _ _ rfl]
  rcases hR with ⟨es, rfl, rfl⟩ | ⟨k, rfl, rfl⟩
  · simp (maxSteps := 2000000) (disch := omega) only [SA, ofValue, ofCell, bin, intBin, un, idx, Go.Ev.builtin, calleeOf, V.isNilS, V.depthOk, depth1, V.ok1, V.isAgg, V.cells, isConst, Nat.reduceBEq, Nat.reduceEqDiff, ↓reduceIte, Nat.reduceLeDiff, Nat.reduceAdd, Nat.reduceMul, Nat.reduceSub, Nat.reduceLT, Int.reduceAdd, Int.reduceSub, Int.reduceMul, Int.reduceLT, Int.reduceLE, Int.reduceToNat, Int.reduceNeg, reduceIte, reduceCtorEq, SPx, SAx, SSx, appendTo, elemsOf]
    refine hK _ _ ?_
    clear hK K
    refine gP @Nat.zero_add ?_
    refine fin113 (es := es) (k := 0) ?_ ?_ ?_ ?_ ?_ ?_
    all_goals (try refine f0 @hd ?_);all_goals try exact True.intro
    all_goals first | rfl | simp [Mem.new, Mem.set]
  · simp (maxSteps := 2000000) (disch := omega) only [SA, ofValue, ofCell, bin, intBin, un, idx, Go.Ev.builtin, calleeOf, V.isNilS, V.depthOk, depth1, V.ok1, V.isAgg, V.cells, isConst, Nat.reduceBEq, Nat.reduceEqDiff, ↓reduceIte, Nat.reduceLeDiff, Nat.reduceAdd, Nat.reduceMul, Nat.reduceSub, Nat.reduceLT, Int.reduceAdd, Int.reduceSub, Int.reduceMul, Int.reduceLT, Int.reduceLE, Int.reduceToNat, Int.reduceNeg, reduceIte, reduceCtorEq, SPx, SAx, SSx, appendTo, elemsOf]
    refine hK _ _ ?_
    clear hK K
    refine gP @Nat.zero_add ?_
    refine fin113p (k := k) (x4 := .rs ⟨1, 4, 1, 1⟩ 0 0 0) (x5 := vi 0) ?_ ?_ ?_ ?_ ?_ ?_
    all_goals (try refine f0 @hd ?_);all_goals try exact True.intro
    all_goals first | rfl | simp [Mem.new, Mem.set]
theorem M113e (e : Int) (he : e ≠ 0) (g : FuncId) (cap : List V) (oM : Go.Ev.Rows) (hcap : cap.any V.loose = true) : AnsAt X 113 [vi e, .fn g [] cap] [oM] (.ret (.tup [.sl [], vi e])) := by
  have hne : cap.isEmpty = false := by cases cap with | nil => simp at hcap | cons _ _ => rfl
  refine ⟨rfl, by simp [V.refs, V.loose, hne], fun v hv => ?_, ?_⟩
  · injection hv with hv; subst hv; rfl
  refine runsAt_of (X := X) (fn := Tryd.f113) Tryd.func113 rfl ⟨by decide +kernel, Nat.le_of_ble_eq_true rfl⟩ ?_
  have hd : (enter [vi e, V.fn g [] cap] [oM]).dfs = [] := rfl
  have h0 : (enter [vi e, V.fn g [] cap] [oM]).t.get 0 = vi e := rfl
  have h1 : (enter [vi e, V.fn g [] cap] [oM]).t.get 1 = .fn g [] cap := rfl
  have hm : (enter [vi e, V.fn g [] cap] [oM]).m = ⟨.nil, [oM]⟩ := rfl
  generalize enter [vi e, V.fn g [] cap] [oM] = s at *
  refine gPA (aI @h0 <|aI @h1 <|@hm) ?_
  refine cnd (fun h => ?_) (fun h => ?_)
  · refine gPA (aI @h0 <|aI @h1 <|@hm) ?_
    refine fin_ret (X := X) (fn := Tryd.f113) (vs := [.rs ⟨1, 4, 1, 1⟩ 0 0 0, vi e]) hd ?_ ?_ ?_
    · simp (maxSteps := 2000000) (disch := omega) only [SA, ofValue, ofCell, bin, intBin, un, idx, Go.Ev.builtin, calleeOf, V.isNilS, V.depthOk, depth1, V.ok1, V.isAgg, V.cells, isConst, Nat.reduceBEq, Nat.reduceEqDiff, ↓reduceIte, Nat.reduceLeDiff, Nat.reduceAdd, Nat.reduceMul, Nat.reduceSub, Nat.reduceLT, Int.reduceAdd, Int.reduceSub, Int.reduceMul, Int.reduceLT, Int.reduceLE, Int.reduceToNat, Int.reduceNeg, reduceIte, reduceCtorEq, SPx, SAx, Tryd.results113, resVars, resVar]
    · simp (maxSteps := 2000000) (disch := omega) only [SA, ofValue, ofCell, bin, intBin, un, idx, Go.Ev.builtin, calleeOf, V.isNilS, V.depthOk, depth1, V.ok1, V.isAgg, V.cells, isConst, Nat.reduceBEq, Nat.reduceEqDiff, ↓reduceIte, Nat.reduceLeDiff, Nat.reduceAdd, Nat.reduceMul, Nat.reduceSub, Nat.reduceLT, Int.reduceAdd, Int.reduceSub, Int.reduceMul, Int.reduceLT, Int.reduceLE, Int.reduceToNat, Int.reduceNeg, reduceIte, reduceCtorEq, SPx, SAx, resOf, X_own, mv_tup, mv2s_cons, mv2s_nil, mv2_int, cut, List.take_zero, List.drop_zero]
    · refine (frzR_own (fun r ty off len hm => ?_)).trans ?_
      · simp [resOf, leaves, leaves2] at hm
        rw [hm.1]; rfl
      · rfl
  · exact absurd (by simpa using h) he
end Go.Proofs.YtpocekfifokndaaDoor
namespace Go.Proofs.YtpocekfifokndaaDoor
open Go Go.Ev Go.Pl
set_option maxRecDepth 100000
set_option maxHeartbeats 4000000
def placeV (N : Nat) (sh : Int) : V := .agg [.sl (nats (digB N)), vi (if N = 0 then 0 else sh + vz N)]
abbrev goodP (N : Nat) (sh : Int) : Prop := N = 0 ∨ ((digB N).length ≤ 16 ∧ -64 ≤ sh + vz N ∧ sh + vz N ≤ 64)
theorem placeRes_at (M t : Nat) (sh : Int) (ht : 72 + sh = t) : placeRes (M * 60 ^ t) = if goodP M sh then .ret (placeV M sh) else .panic (.ifc 23 (vi 3)) := by
  unfold goodP placeV
  rcases Nat.eq_zero_or_pos M with rfl | h
  · rw [placeRes, Nat.zero_mul, if_pos rfl, if_pos (Or.inl rfl), if_pos rfl, digB_zero]; rfl
  · have h1 : M * 60 ^ t ≠ 0 := Nat.mul_ne_zero (by omega) (Nat.pos_iff_ne_zero.1 (pow_pos t))
    have h0 : ¬ M = 0 := by omega
    rw [placeRes, if_neg h1, digB_shift, vz_shift h, if_neg h0]
    have e : ((vz M + t : Nat) : Int) - 72 = sh + vz M := by omega
    rw [e]
    by_cases c : (digB M).length ≤ 16 ∧ -64 ≤ sh + vz M ∧ sh + vz M ≤ 64
    · have g1 : ¬ (16 < (digB M).length ∨ 64 < sh + (vz M : Int) ∨ sh + (vz M : Int) < -64) := by omega
      have g2 : M = 0 ∨ (digB M).length ≤ 16 ∧ -64 ≤ sh + (vz M : Int) ∧ sh + (vz M : Int) ≤ 64 := Or.inr c
      rw [if_neg g1, if_pos g2]
    · have g1 : 16 < (digB M).length ∨ 64 < sh + (vz M : Int) ∨ sh + (vz M : Int) < -64 := by omega
      have g2 : ¬ (M = 0 ∨ (digB M).length ≤ 16 ∧ -64 ≤ sh + (vz M : Int) ∧ sh + (vz M : Int) ≤ 64) := by omega
      rw [if_pos g1, if_neg g2]
theorem P109 (N : Nat) (sh : Int) (hl : (canL N).length < 1000) (h1 : -1000000 < sh) (h2 : sh < 1000000) : Ans X 109 [.sl (nats (canL N)), vi sh] (.ret (.tup [placeV N sh, .bool (decide (goodP N sh))])) := by
  refine call_of_X (fn := Tryd.f109) 2 Tryd.func109 rfl (by decide +kernel) rfl ?_ ?_ ?_ ?_
  · rfl
  · intro h; exact absurd h (by rw [sr109]; decide)
  · intro v hv; injection hv with hv; subst hv; rfl
  intro s hs hd ho
  have hm : s.m = ⟨.nil, []⟩ := by subst hs; rfl
  have h0 : s.t.get 0 = .sl (nats (canL N)) := by subst hs; rfl
  have h1' : s.t.get 1 = vi sh := by subst hs; rfl
  clear hs
  have q := P83 N hl
  have hz : N = 0 ↔ (digB N).length = 0 := by rw [List.length_eq_zero_iff]; exact digB_eq_nil.symm
  have hvz : vz N < 1000 := by have := canL_len_core N; omega
  unfold goodP placeV
  generalize digB N = D at *
  generalize vz N = v at *
  generalize canL N = L at *
  clear hl
  refine gPAS (aI @h0 <|aI @h1' <|aI @hm <|aI @co83 <|aI @sr83 <|aI @q.iffx <|@nats_length) ?_
  refine cnd (fun h => ?_) (fun h => ?_)
  · have h : N = 0 := hz.2 (by have h' := eq_of_beq h; omega)
    have hD : D = [] := List.length_eq_zero_iff.1 (hz.1 h)
    rw [if_pos h, decide_eq_true (.inl h), hD]
    refine gPAS @hm ?_
    refine rPAS hd (aI @Tryd.results109 <|@hm) ?_
    try exact True.intro
    rfl
  have h : ¬ N = 0 := fun e => by
    have := hz.1 e
    rw [this] at h; simp at h
  rw [if_neg h]
  have e1 : V.int .i64 (wr .i64 (sh + (v : Int))) = vi (sh + v) := by rw [wr_i64 (by omega) (by omega)]
  by_cases c1 : D.length ≤ 16
  · have c1' : (D.length : Int) ≤ 16 := by omega
    by_cases c2 : -64 ≤ sh + (v : Int)
    · have c2' : sh + (v : Int) ≥ -64 := c2
      by_cases c3 : sh + (v : Int) ≤ 64
      · have hT : (N = 0 ∨ D.length ≤ 16 ∧ -64 ≤ sh + (v : Int) ∧ sh + (v : Int) ≤ 64) := .inr ⟨c1, c2, c3⟩
        rw [decide_eq_true hT]
        clear hT c1 c2 hz
        refine gPAS (aI @h0 <|aI @h1' <|aI @hm <|aI @nats_length <|aI @rowsOf_aggl <|aI @ptrs_aggl <|aI @e1 <|aI @c1' <|aI @c2' <|@c3) ?_
        refine rPAS hd (aI @Tryd.results109 <|@hm) ?_
        try exact True.intro
      · have hT : ¬ (N = 0 ∨ D.length ≤ 16 ∧ -64 ≤ sh + (v : Int) ∧ sh + (v : Int) ≤ 64) := by omega
        rw [decide_eq_false hT]
        clear hT c1 c2 hz
        refine gPAS (aI @h0 <|aI @h1' <|aI @hm <|aI @nats_length <|aI @rowsOf_aggl <|aI @ptrs_aggl <|aI @e1 <|aI @c1' <|aI @c2' <|@c3) ?_
        refine rPAS hd (aI @Tryd.results109 <|@hm) ?_
        try exact True.intro
    · have hT : ¬ (N = 0 ∨ D.length ≤ 16 ∧ -64 ≤ sh + (v : Int) ∧ sh + (v : Int) ≤ 64) := by omega
      have c2' : ¬ sh + (v : Int) ≥ -64 := c2
      rw [decide_eq_false hT]
      clear hT c1 c2 hz
      refine gPAS (aI @h0 <|aI @h1' <|aI @hm <|aI @nats_length <|aI @rowsOf_aggl <|aI @ptrs_aggl <|aI @e1 <|aI @c1' <|@c2') ?_
      refine rPAS hd (aI @Tryd.results109 <|@hm) ?_
      try exact True.intro
  · have hT : ¬ (N = 0 ∨ D.length ≤ 16 ∧ -64 ≤ sh + (v : Int) ∧ sh + (v : Int) ≤ 64) := by omega
    have c1' : ¬ (D.length : Int) ≤ 16 := by omega
    rw [decide_eq_false hT]
    clear hT c1 hz
    refine gPAS (aI @h0 <|aI @h1' <|aI @hm <|aI @nats_length <|aI @rowsOf_aggl <|aI @ptrs_aggl <|aI @e1 <|@c1') ?_
    refine rPAS hd (aI @Tryd.results109 <|@hm) ?_
    try exact True.intro
theorem P48 (a : List Nat) (sh : Int) (hl : a.length < 1000000000000) : Ans X 48 [.agg [.sl (nats a), vi sh], .agg [.sl (nats a), vi sh]] (.ret (.bool true)) := by
  refine call_of_X (fn := Tryd.f48) 2 Tryd.func48 rfl (by decide +kernel) rfl ?_ ?_ ?_ ?_
  · rfl
  · exact fun _ => rfl
  · intro v hv; injection hv with hv; subst hv; rfl
  intro s hs hd ho
  have hm : s.m = ⟨.nil, []⟩ := by subst hs; rfl
  have h0 : s.t.get 0 = .agg [.sl (nats a), vi sh] := by subst hs; rfl
  have h1 : s.t.get 1 = .agg [.sl (nats a), vi sh] := by subst hs; rfl
  clear hs
  have q := Q25 a hl
  refine gPAS (aI @h0 <|aI @h1 <|aI @hm <|aI @co25 <|aI @sr25 <|@q.iffx) ?_
  refine rP hd @Tryd.results48 ?_
  try exact True.intro
end Go.Proofs.YtpocekfifokndaaDoor
namespace Go.Proofs.YtpocekfifokndaaDoor
open Go Go.Ev Go.Pl
set_option maxRecDepth 100000
set_option maxHeartbeats 4000000
theorem good0 {M : Nat} (h : M < 60 ^ 60) : goodP M 0 ↔ (digB M).length ≤ 16 := by
  unfold goodP
  rcases Nat.eq_zero_or_pos M with rfl | hp
  · rw [digB_zero]; simp
  · have := vz_lt hp h
    constructor
    · rintro (h | h)
      · omega
      · exact h.1
    · intro h'
      exact .inr ⟨h', by omega, by omega⟩
theorem wvOk (f : Nat → Nat) : elemOk (V.agg (wc f)) = true := by rw [elemOk, show (V.agg (wc f)).refs = false from wc_loose f]; rfl
def tabP (n : Nat) : Bool := decide (n ≤ 20) || n % 10 == 0
def tabN : Nat → List Nat
  | 0 => []
  | k + 1 => tabN k ++ if tabP (k + 1) = true then [k + 1] else []
def rowsV (N : Nat) (L : List Nat) : List V := L.map fun n => .sl (nats (digB (N * n)))
theorem rowsV_length (N : Nat) (L : List Nat) : (rowsV N L).length = L.length := by simp [rowsV]
theorem rowsV_snoc (N : Nat) (L : List Nat) (n : Nat) : rowsV N L ++ [.sl (nats (digB (N * n)))] = rowsV N (L ++ [n]) := by simp [rowsV]
theorem cut_rows (N : Nat) (L : List Nat) : cut (rowsV N L) 0 L.length = rowsV N L := by unfold cut; rw [List.drop_zero, List.take_of_length_le (by rw [rowsV_length]; exact Nat.le_refl _)]
theorem tabN_yes {k : Nat} (h : tabP (k + 1) = true) : tabN (k + 1) = tabN k ++ [k + 1] := by rw [tabN, if_pos h]
theorem tabN_no {k : Nat} (h : ¬ tabP (k + 1) = true) : tabN (k + 1) = tabN k := by rw [tabN, if_neg h, List.append_nil]
theorem tabN_len : ∀ k, (tabN k).length ≤ k
  | 0 => Nat.le_refl _
  | k + 1 => by
    have := tabN_len k
    rw [tabN, List.length_append]
    split
    · simp; omega
    · simp; omega
theorem tabN_mem : ∀ {k j n : Nat}, j ≤ k → n ∈ tabN j → n ∈ tabN k
  | 0, j, n, h, hn => by
    obtain rfl : j = 0 := by omega
    exact hn
  | k + 1, j, n, h, hn => by
    rcases Nat.lt_or_ge k j with h' | h'
    · obtain rfl : j = k + 1 := by omega
      exact hn
    · rw [tabN]; exact List.mem_append_left _ (tabN_mem h' hn)
def tabOk (N : Nat) : Bool := (tabN 50).all fun n => decide ((digB (N * n)).length ≤ 16)
theorem tabOk_no {N n : Nat} (hn : n ∈ tabN 50) (h : ¬ (digB (N * n)).length ≤ 16) : tabOk N = false := by
  rw [tabOk, Bool.eq_false_iff, ne_eq, List.all_eq_true]
  intro e
  exact h (of_decide_eq_true (e n hn))
theorem tabOk_yes {N : Nat} (h : ∀ n ∈ tabN 50, (digB (N * n)).length ≤ 16) : tabOk N = true := by
  rw [tabOk, List.all_eq_true]
  intro n hn
  exact decide_eq_true (h n hn)
def tabRes (N : Nat) : Res := if tabOk N = true then .ret (.sl (rowsV N (tabN 50))) else .panic (.ifc 23 (vi 3))
theorem P114 (l : List Nat) (hl : ∀ d ∈ l, d < 60) (hlen : l.length ≤ 16) (N : Nat) (hNe : numL l.reverse = N) (o1 oM : Go.Ev.Rows)
    (hA : (⟨oM, []⟩ : Mem).row ⟨0, 1, 0, 1⟩ = some ⟨1, 22, false, false, [.sl (nats l)]⟩) :
    AnsAt X 114 [.ptr ⟨0, 1, 0, 1⟩ 0 0] [o1, oM] (tabRes N) := by
  refine ⟨rfl, rfl, fun v hv => ?_, ?_⟩
  · unfold tabRes at hv
    split at hv
    · injection hv with hv; subst hv; rfl
    · cases hv
  refine runsAt_of (X := X) (fn := Tryd.f114) Tryd.func114 rfl ⟨by decide +kernel, Nat.le_of_ble_eq_true rfl⟩ ?_
  have hd : (enter [V.ptr ⟨0, 1, 0, 1⟩ 0 0] [o1, oM]).dfs = [] := rfl
  have h0 : (enter [V.ptr ⟨0, 1, 0, 1⟩ 0 0] [o1, oM]).t.get 0 = .ptr ⟨0, 1, 0, 1⟩ 0 0 := rfl
  have hm : (enter [V.ptr ⟨0, 1, 0, 1⟩ 0 0] [o1, oM]).m = ⟨.nil, [o1, oM]⟩ := rfl
  generalize enter [V.ptr ⟨0, 1, 0, 1⟩ 0 0] [o1, oM] = s at *
  have hA' : (⟨.nil, [o1, oM]⟩ : Mem).row ⟨0, 1, 0, 1⟩ = some ⟨1, 22, false, false, [.sl (nats l)]⟩ := by rw [row_outer _ _ _ _ (by simp), row_outer _ _ _ _ (by simp), hA]
  have hNb : N < 60 ^ 16 := by
    have := Go.Pl.num_lt (l := l.reverse) (fun d hd => hl d (List.mem_reverse.1 hd))
    rw [List.length_reverse, hNe] at this
    exact lt_pow_mono this hlen
  have q1 := P86 l 0 72 rfl hl (by omega)
  rw [hNe] at q1
  refine gPAW (aI @h0 <|aI @hm <|aI @hA' <|aI @co86 <|aI @sr86 <|aI @q1.iffx <|@wvOk) ?_
  refine W_loopg (fun (k : Nat) s => s.dfs = [] ∧ s.m.out = [o1, oM] ∧ s.t.get 3 = .fn 115 [wv (N * 60 ^ 72)] [] ∧ s.t.get 4 = vn (k + 1) ∧ HeldD s.m 2 2 1 22 (s.t.get 2) (rowsV N (tabN k)) ∧ k ≤ 50 ∧ ∀ n ∈ tabN k, (digB (N * n)).length ≤ 16) (fun k => 50 - k) 0 ?_ ?_
  · refine ⟨hd, ?_, ?_, ?_, ⟨1, 0, ?_, ?_, .inr ⟨rfl, rfl⟩⟩, Nat.zero_le _, fun n hn => by simp [tabN] at hn⟩
    all_goals (try refine fW @hm ?_);all_goals try exact True.intro
    all_goals rfl
  clear hd h0 hm hA' q1 hA
  rintro k s ⟨hd, ho, h3, h4, ⟨g, ty, h2, r2, hty⟩, hk, hall⟩
  rw [rowsV_length] at h2 hty
  refine gP @h4 ?_
  refine cnd (fun h => ?_) (fun h => ?_)
  · have hk50 : k < 50 := by have := of_decide_eq_true h; omega
    clear h
    have q1 := P115 (N * 60 ^ 72) (k + 1) (by
      calc N * 60 ^ 72 < 60 ^ 16 * 60 ^ 72 := Nat.mul_lt_mul_of_pos_right hNb (by decide)
        _ ≤ 60 ^ 168 := by decide) (by omega)
    have hM : N * (k + 1) < 60 ^ 17 := by
      calc N * (k + 1) < 60 ^ 16 * 60 := Nat.mul_lt_mul'' hNb (by omega)
        _ = 60 ^ 17 := rfl
    have hM2 : N * 60 ^ 72 * (k + 1) < 60 ^ 168 := by
      rw [Nat.mul_right_comm]
      calc N * (k + 1) * 60 ^ 72 < 60 ^ 17 * 60 ^ 72 := Nat.mul_lt_mul_of_pos_right hM (by decide)
        _ ≤ 60 ^ 168 := by decide
    rw [if_pos hM2, Nat.mul_right_comm] at q1
    rw [Nat.mul_right_comm] at hM2
    have q2 := P81 _ hM2
    rw [placeRes_at (N * (k + 1)) 72 0 rfl] at q2
    have hgd := good0 (M := N * (k + 1)) (lt_pow_mono hM (by decide))
    have m10 : Int.tmod ((k + 1 : Nat) : Int) 10 = (((k + 1) % 10 : Nat) : Int) := rfl
    have hcnt := tabN_len k
    have e1 : V.int .i64 (wr .i64 (((k + 1 : Nat) : Int) + 1)) = vn (k + 1 + 1) := by rw [wr_i64 (by omega) (by omega)]; rfl
    by_cases c : tabP (k + 1) = true
    · have hmem : k + 1 ∈ tabN 50 := tabN_mem (show k + 1 ≤ 50 by omega) (by rw [tabN_yes c]; simp)
      have hcc : (decide (((k + 1 : Nat) : Int) ≤ 20) = true) ∨ (decide (((k + 1 : Nat) : Int) ≤ 20) = false ∧ ((((k + 1) % 10 : Nat) : Int) == 0) = true) := by
        unfold tabP at c
        rcases Nat.lt_or_ge 20 (k + 1) with h | h
        · right
          rw [decide_eq_false (by omega)] at c
          have : (k + 1) % 10 = 0 := by simpa using c
          exact ⟨decide_eq_false (by omega), by rw [this]; rfl⟩
        · left; exact decide_eq_true (by omega)
      by_cases c2 : goodP (N * (k + 1)) 0
      · rw [if_pos c2] at q2
        unfold placeV at q2
        have hall' : ∀ n ∈ tabN (k + 1), (digB (N * n)).length ≤ 16 := by
          rw [tabN_yes c]
          intro n hn
          rcases List.mem_append.1 hn with h | h
          · exact hall n h
          · obtain rfl : n = k + 1 := by simpa using h
            exact hgd.1 c2
        rcases hcc with c3 | ⟨c3, c4⟩
        · refine gPASWC (aI @h2 <|aI @h3 <|aI @h4 <|aI @ho <|aI @r2 <|aI @hty <|aI @c3 <|aI @m10 <|aI @co115 <|aI @sr115 <|aI @co81 <|aI @sr81 <|aI @q1.iffx <|aI @q2.iffx <|aI @rowsV_length <|aI @cut_rows <|@rowsV_snoc) ?_
          refine cnd (fun h => ?_) (fun h => ?_)
          · refine gPASWC (aI @h2 <|aI @h3 <|aI @h4 <|aI @ho <|aI @r2 <|aI @hty <|aI @c3 <|aI @m10 <|aI @co115 <|aI @sr115 <|aI @co81 <|aI @sr81 <|aI @q1.iffx <|aI @q2.iffx <|aI @rowsV_length <|aI @cut_rows <|aI @rowsV_snoc <|@e1) ?_
            refine ⟨k + 1, ⟨hd, ?_, ?_, ?_, ⟨g + 1, 22, ?_, ?_, .inl rfl⟩, by omega, hall'⟩, by omega⟩
            all_goals (try refine fSW (aI @h2 <|aI @h3 <|aI @h4 <|aI @r2 <|aI @ho <|aI @rowsV_length <|(tabN_yes c)) ?_);all_goals try exact True.intro
            simp [Mem.new, Mem.set, ho]
          · simp at h
        · refine gPASWC (aI @h2 <|aI @h3 <|aI @h4 <|aI @ho <|aI @r2 <|aI @hty <|aI @c3 <|aI @c4 <|aI @m10 <|aI @co115 <|aI @sr115 <|aI @co81 <|aI @sr81 <|aI @q1.iffx <|aI @q2.iffx <|aI @rowsV_length <|aI @cut_rows <|@rowsV_snoc) ?_
          refine cnd (fun h => ?_) (fun h => ?_)
          · refine gPASWC (aI @h2 <|aI @h3 <|aI @h4 <|aI @ho <|aI @r2 <|aI @hty <|aI @c3 <|aI @c4 <|aI @m10 <|aI @co115 <|aI @sr115 <|aI @co81 <|aI @sr81 <|aI @q1.iffx <|aI @q2.iffx <|aI @rowsV_length <|aI @cut_rows <|aI @rowsV_snoc <|@e1) ?_
            refine ⟨k + 1, ⟨hd, ?_, ?_, ?_, ⟨g + 1, 22, ?_, ?_, .inl rfl⟩, by omega, hall'⟩, by omega⟩
            all_goals (try refine fSW (aI @h2 <|aI @h3 <|aI @h4 <|aI @r2 <|aI @ho <|aI @rowsV_length <|(tabN_yes c)) ?_);all_goals try exact True.intro
            simp [Mem.new, Mem.set, ho]
          · simp at h
      · rw [if_neg c2] at q2
        have hno := tabOk_no hmem (fun e => c2 (hgd.2 e))
        rw [tabRes, if_neg (by rw [hno]; decide)]
        rcases hcc with c3 | ⟨c3, c4⟩
        · refine gPASWC (aI @h2 <|aI @h3 <|aI @h4 <|aI @ho <|aI @r2 <|aI @hty <|aI @c3 <|aI @m10 <|aI @co115 <|aI @sr115 <|aI @co81 <|aI @sr81 <|aI @q1.iffx <|aI @q2.panicsx <|aI @rowsV_length <|aI @cut_rows <|@rowsV_snoc) ?_
          refine cnd (fun h => ?_) (fun h => ?_)
          · refine gPASWC (aI @h2 <|aI @h3 <|aI @h4 <|aI @ho <|aI @r2 <|aI @hty <|aI @c3 <|aI @m10 <|aI @co115 <|aI @sr115 <|aI @co81 <|aI @sr81 <|aI @q1.iffx <|aI @q2.panicsx <|aI @rowsV_length <|aI @cut_rows <|aI @rowsV_snoc <|@e1) ?_
            refine fin_panic hd rfl ?_
            simp [Mem.new, Mem.set, ho]
          · simp at h
        · refine gPASWC (aI @h2 <|aI @h3 <|aI @h4 <|aI @ho <|aI @r2 <|aI @hty <|aI @c3 <|aI @c4 <|aI @m10 <|aI @co115 <|aI @sr115 <|aI @co81 <|aI @sr81 <|aI @q1.iffx <|aI @q2.panicsx <|aI @rowsV_length <|aI @cut_rows <|@rowsV_snoc) ?_
          refine cnd (fun h => ?_) (fun h => ?_)
          · refine gPASWC (aI @h2 <|aI @h3 <|aI @h4 <|aI @ho <|aI @r2 <|aI @hty <|aI @c3 <|aI @c4 <|aI @m10 <|aI @co115 <|aI @sr115 <|aI @co81 <|aI @sr81 <|aI @q1.iffx <|aI @q2.panicsx <|aI @rowsV_length <|aI @cut_rows <|aI @rowsV_snoc <|@e1) ?_
            refine fin_panic hd rfl ?_
            simp [Mem.new, Mem.set, ho]
          · simp at h
    · have hcc : decide (((k + 1 : Nat) : Int) ≤ 20) = false ∧ ((((k + 1) % 10 : Nat) : Int) == 0) = false := by
        unfold tabP at c
        simp only [Bool.or_eq_true, decide_eq_true_eq, beq_iff_eq, not_or] at c
        exact ⟨decide_eq_false (by omega), by rw [beq_eq_false_iff_ne]; omega⟩
      obtain ⟨c3, c4⟩ := hcc
      refine gPC (aI @h4 <|aI @c3 <|aI @c4 <|@m10) ?_
      refine cnd (fun h => ?_) (fun h => ?_)
      · simp at h
      refine gP (aI @h4 <|@e1) ?_
      refine ⟨k + 1, ⟨hd, ?_, ?_, ?_, ⟨g, ty, ?_, ?_, ?_⟩, by omega, ?_⟩, by omega⟩
      all_goals (try refine f0 (aI @h2 <|aI @h3 <|aI @h4 <|aI @r2 <|aI @ho <|@rowsV_length) ?_);all_goals try exact True.intro
      all_goals (try rw [tabN_no c])
      · exact hty
      · exact hall
  · have hk50 : k = 50 := by have := of_decide_eq_false h; omega
    subst hk50
    have hok := tabOk_yes hall
    rw [tabRes, if_pos hok]
    clear h
    refine gPAS (aI @h2 <|aI @r2 <|@ho) ?_
    refine fin_ret (X := X) (fn := Tryd.f114) (vs := [.rs ⟨2, 2, 1, g⟩ ty 0 (tabN 50).length]) hd ?_ ?_ ?_
    · simp (maxSteps := 2000000) (disch := omega) only [SA, ofValue, ofCell, bin, intBin, un, idx, Go.Ev.builtin, calleeOf, V.isNilS, V.depthOk, depth1, V.ok1, V.isAgg, V.cells, isConst, Nat.reduceBEq, Nat.reduceEqDiff, ↓reduceIte, Nat.reduceLeDiff, Nat.reduceAdd, Nat.reduceMul, Nat.reduceSub, Nat.reduceLT, Int.reduceAdd, Int.reduceSub, Int.reduceMul, Int.reduceLT, Int.reduceLE, Int.reduceToNat, Int.reduceNeg, reduceIte, reduceCtorEq, SPx, Tryd.results114, resVars, resVar]
    · simp (maxSteps := 2000000) (disch := omega) only [SA, ofValue, ofCell, bin, intBin, un, idx, Go.Ev.builtin, calleeOf, V.isNilS, V.depthOk, depth1, V.ok1, V.isAgg, V.cells, isConst, Nat.reduceBEq, Nat.reduceEqDiff, ↓reduceIte, Nat.reduceLeDiff, Nat.reduceAdd, Nat.reduceMul, Nat.reduceSub, Nat.reduceLT, Int.reduceAdd, Int.reduceSub, Int.reduceMul, Int.reduceLT, Int.reduceLE, Int.reduceToNat, Int.reduceNeg, reduceIte, reduceCtorEq, SPx, SAx, resOf, X_own, r2, rowsV_length, cut_rows]
    · refine (frzR_own (fun r ty off len hm => ?_)).trans ho
      simp [resOf, leaves, leaves2] at hm
      rw [hm.1, ho]; rfl
def tabS (a : List Int) : List Nat × Int := if chk a ≠ 0 then ([], chk a) else if tabOk (numI a) = true then (tabN 50, 0) else ([], 3)
theorem P49 (a : List Int) : Ans X 49 [.sl (ints a)] (.ret (.tup [.sl (rowsV (numI a) (tabS a).1), vi (tabS a).2])) := by
  refine call_of_X (fn := Tryd.f49) 1 Tryd.func49 rfl (by decide +kernel) rfl ?_ ?_ ?_ ?_
  · rfl
  · intro h; exact absurd h (by rw [sr49]; decide)
  · intro v hv; injection hv with hv; subst hv; rfl
  intro s hs hd ho
  have hm : s.m = ⟨.nil, []⟩ := by subst hs; rfl
  have h0 : s.t.get 0 = .sl (ints a) := by subst hs; rfl
  clear hs
  have key : ∀ (m : Mem) (dst : Nat) (K KP : V → Mem → Prop), m.out = [] → m.row ⟨0, 1, 0, 1⟩ = some ⟨1, 22, false, false, [.sl (ints a)]⟩ →
      (CallQ X 113 [vi (chk a), .fn 114 [] [.ptr ⟨0, 1, 0, 1⟩ 0 0]] m dst K KP ↔ K (.tup [.sl (rowsV (numI a) (tabS a).1), vi (tabS a).2]) m) := by
    rintro ⟨own, out⟩ dst K KP ho r1
    dsimp only at ho
    subst ho
    by_cases hc : chk a = 0
    · obtain ⟨b1, b2, b3, b4, _⟩ := chk_ok hc
      rw [b1] at r1
      rw [hc]
      have q := fun o1 => P114 (natsOf a) b2 (by omega) (numI a) rfl o1 own r1
      by_cases c : tabOk (numI a) = true
      · rw [tabRes, if_pos c] at q
        refine AnsAt.iff (m := ⟨own, []⟩) (M113 114 _ own _ rfl co114 sr114 q _ (.inl ⟨_, rfl, ?_⟩))
        rw [tabS, if_neg (fun e => e hc), if_pos c]
      · rw [tabRes, if_neg c] at q
        refine AnsAt.iff (m := ⟨own, []⟩) (M113 114 _ own _ rfl co114 sr114 q _ (.inr ⟨3, rfl, ?_⟩))
        rw [tabS, if_neg (fun e => e hc), if_neg c]; rfl
    · refine AnsAt.iff (m := ⟨own, []⟩) ?_
      have := M113e (chk a) hc 114 [.ptr ⟨0, 1, 0, 1⟩ 0 0] own rfl
      rw [tabS, if_pos hc]; exact this
  refine gPA (aI @h0 <|@hm) ?_
  with_reducible refine W_region_k ?_
  intro K hK
  simp (maxSteps := 2000000) (disch := omega) only [SA, ofValue, ofCell, bin, intBin, un, idx, Go.Ev.builtin, calleeOf, V.isNilS, V.depthOk, depth1, V.ok1, V.isAgg, V.cells, isConst, Nat.reduceBEq, Nat.reduceEqDiff, ↓reduceIte, Nat.reduceLeDiff, Nat.reduceAdd, Nat.reduceMul, Nat.reduceSub, Nat.reduceLT, Int.reduceAdd, Int.reduceSub, Int.reduceMul, Int.reduceLT, Int.reduceLE, Int.reduceToNat, Int.reduceNeg, reduceIte, reduceCtorEq, SPx, SAx, hm, co28, sr28, (P28 a).iff, co113, sr113]
  rw [key _ _ _ _ rfl (by simp [Mem.row_new, Mem.row_setW, Mem.new_out, Mem.gen_new, Mem.gen_nil])]
  simp (maxSteps := 2000000) (disch := omega) only [SA, ofValue, ofCell, bin, intBin, un, idx, Go.Ev.builtin, calleeOf, V.isNilS, V.depthOk, depth1, V.ok1, V.isAgg, V.cells, isConst, Nat.reduceBEq, Nat.reduceEqDiff, ↓reduceIte, Nat.reduceLeDiff, Nat.reduceAdd, Nat.reduceMul, Nat.reduceSub, Nat.reduceLT, Int.reduceAdd, Int.reduceSub, Int.reduceMul, Int.reduceLT, Int.reduceLE, Int.reduceToNat, Int.reduceNeg, reduceIte, reduceCtorEq, SPx, SAx]
  refine hK _ _ ?_
  clear hK K
  refine gP @Nat.zero_add ?_
  refine rP hd @Tryd.results49 ?_
  try exact True.intro
end Go.Proofs.YtpocekfifokndaaDoor
namespace Go.Proofs.YtpocekfifokndaaDoor
open Go Go.Ev Go.Pl
set_option maxRecDepth 100000
set_option maxHeartbeats 4000000
theorem D139n (own oM : Go.Ev.Rows) : ∃ k, evD X k 139 [.ptr ⟨1, 4, 0, 1⟩ 0 0, .ptr ⟨1, 5, 0, 1⟩ 0 0] [own, oM] none = some [own, oM] := by
  refine evD_of (X := X) (fn := Tryd.f139) Tryd.func139 rfl rfl ⟨by decide +kernel, Nat.le_of_ble_eq_true rfl, rfl, co139⟩ rfl ?_
  have hm : (enter [V.ptr ⟨1, 4, 0, 1⟩ 0 0, V.ptr ⟨1, 5, 0, 1⟩ 0 0] [own, oM]).m = ⟨.nil, [own, oM]⟩ := rfl
  have hd : (enter [V.ptr ⟨1, 4, 0, 1⟩ 0 0, V.ptr ⟨1, 5, 0, 1⟩ 0 0] [own, oM]).dfs = [] := rfl
  generalize enter [V.ptr ⟨1, 4, 0, 1⟩ 0 0, V.ptr ⟨1, 5, 0, 1⟩ 0 0] [own, oM] = s at *
  refine WL_k ?_
  intro K hK
  simp (maxSteps := 2000000) (disch := omega) only [SA, ofValue, ofCell, bin, intBin, un, idx, Go.Ev.builtin, calleeOf, V.isNilS, V.depthOk, depth1, V.ok1, V.isAgg, V.cells, isConst, Nat.reduceBEq, Nat.reduceEqDiff, ↓reduceIte, Nat.reduceLeDiff, Nat.reduceAdd, Nat.reduceMul, Nat.reduceSub, Nat.reduceLT, Int.reduceAdd, Int.reduceSub, Int.reduceMul, Int.reduceLT, Int.reduceLE, Int.reduceToNat, Int.reduceNeg, reduceIte, reduceCtorEq, SPx, hm]
  refine hK _ _ ⟨rfl, ?_⟩
  clear hK K
  repeat (first
    | with_reducible first | refine W_seq ?_ | refine W_skip ?_ | refine W_label ?_ | refine W_ret ?_ | refine W_exit ?_ | refine W_block ?_ | refine thenI ?_ | refine thenRet ?_ | refine thenExit ?_ | refine blockRet ?_ | refine blockI ?_ | refine blockExit ?_ | refine blockExitNe rfl ?_
    | (with_reducible refine W_region_k ?_
       intro K hK
       simp (maxSteps := 2000000) (disch := omega) only [SA, ofValue, ofCell, bin, intBin, un, idx, Go.Ev.builtin, calleeOf, V.isNilS, V.depthOk, depth1, V.ok1, V.isAgg, V.cells, isConst, Nat.reduceBEq, Nat.reduceEqDiff, ↓reduceIte, Nat.reduceLeDiff, Nat.reduceAdd, Nat.reduceMul, Nat.reduceSub, Nat.reduceLT, Int.reduceAdd, Int.reduceSub, Int.reduceMul, Int.reduceLT, Int.reduceLE, Int.reduceToNat, Int.reduceNeg, reduceIte, reduceCtorEq, SPx, bin, eqOk, eqT, isConst, Bool.or_true, Option.map_some]
       refine hK _ _ ?_
       clear hK K)
  )
  refine cnd (fun h => ?_) (fun h => ?_)
  · simp at h
  · refine gP @Nat.zero_add ?_
    exact ⟨.inl rfl, by simp [hd], rfl⟩
theorem D139p (own oM : Go.Ev.Rows) (k : Int) (x4 x5 : V) (h4 : (⟨own, [oM]⟩ : Mem).row ⟨1, 4, 0, 1⟩ = some ⟨1, 64, false, false, [x4]⟩) (h5 : (⟨own, [oM]⟩ : Mem).row ⟨1, 5, 0, 1⟩ = some ⟨1, 23, false, false, [x5]⟩) :
    ∃ j, evD X j 139 [.ptr ⟨1, 4, 0, 1⟩ 0 0, .ptr ⟨1, 5, 0, 1⟩ 0 0] [own, oM] (some (.ifc 23 (vi k))) =
      some [((own.upd 4 500 ⟨(own.get 4 500).g + 1, 0, true, false, []⟩).upd 4 0 ⟨1, 64, false, false, [.rs ⟨1, 4, 500, (own.get 4 500).g + 1⟩ 0 0 0]⟩).upd 5 0 ⟨1, 23, false, false, [vi k]⟩, oM] := by
  refine evD_of (X := X) (fn := Tryd.f139) Tryd.func139 rfl rfl ⟨by decide +kernel, Nat.le_of_ble_eq_true rfl, rfl, co139⟩ rfl ?_
  have hm : (enter [V.ptr ⟨1, 4, 0, 1⟩ 0 0, V.ptr ⟨1, 5, 0, 1⟩ 0 0] [own, oM]).m = ⟨.nil, [own, oM]⟩ := rfl
  have hd : (enter [V.ptr ⟨1, 4, 0, 1⟩ 0 0, V.ptr ⟨1, 5, 0, 1⟩ 0 0] [own, oM]).dfs = [] := rfl
  have t0 : (enter [V.ptr ⟨1, 4, 0, 1⟩ 0 0, V.ptr ⟨1, 5, 0, 1⟩ 0 0] [own, oM]).t.get 0 = .ptr ⟨1, 4, 0, 1⟩ 0 0 := rfl
  have t1 : (enter [V.ptr ⟨1, 4, 0, 1⟩ 0 0, V.ptr ⟨1, 5, 0, 1⟩ 0 0] [own, oM]).t.get 1 = .ptr ⟨1, 5, 0, 1⟩ 0 0 := rfl
  generalize enter [V.ptr ⟨1, 4, 0, 1⟩ 0 0, V.ptr ⟨1, 5, 0, 1⟩ 0 0] [own, oM] = s at *
  have h4' : (⟨.nil, [own, oM]⟩ : Mem).row ⟨1, 4, 0, 1⟩ = some ⟨1, 64, false, false, [x4]⟩ := by rw [row_outer _ _ _ _ (by simp), h4]
  have h5' : (⟨.nil, [own, oM]⟩ : Mem).row ⟨1, 5, 0, 1⟩ = some ⟨1, 23, false, false, [x5]⟩ := by rw [row_outer _ _ _ _ (by simp), h5]
  refine WL_k ?_
  intro K hK
  simp (maxSteps := 2000000) (disch := omega) only [SA, ofValue, ofCell, bin, intBin, un, idx, Go.Ev.builtin, calleeOf, V.isNilS, V.depthOk, depth1, V.ok1, V.isAgg, V.cells, isConst, Nat.reduceBEq, Nat.reduceEqDiff, ↓reduceIte, Nat.reduceLeDiff, Nat.reduceAdd, Nat.reduceMul, Nat.reduceSub, Nat.reduceLT, Int.reduceAdd, Int.reduceSub, Int.reduceMul, Int.reduceLT, Int.reduceLE, Int.reduceToNat, Int.reduceNeg, reduceIte, reduceCtorEq, SPx, hm]
  refine hK _ _ ⟨rfl, ?_⟩
  clear hK K
  repeat (first
    | with_reducible first | refine W_seq ?_ | refine W_skip ?_ | refine W_label ?_ | refine W_ret ?_ | refine W_exit ?_ | refine W_block ?_ | refine thenI ?_ | refine thenRet ?_ | refine thenExit ?_ | refine blockRet ?_ | refine blockI ?_ | refine blockExit ?_ | refine blockExitNe rfl ?_
    | (with_reducible refine W_region_k ?_
       intro K hK
       simp (maxSteps := 2000000) (disch := omega) only [SA, ofValue, ofCell, bin, intBin, un, idx, Go.Ev.builtin, calleeOf, V.isNilS, V.depthOk, depth1, V.ok1, V.isAgg, V.cells, isConst, Nat.reduceBEq, Nat.reduceEqDiff, ↓reduceIte, Nat.reduceLeDiff, Nat.reduceAdd, Nat.reduceMul, Nat.reduceSub, Nat.reduceLT, Int.reduceAdd, Int.reduceSub, Int.reduceMul, Int.reduceLT, Int.reduceLE, Int.reduceToNat, Int.reduceNeg, reduceIte, reduceCtorEq, SPx, bin, eqOk, eqT, isConst, Bool.or_true, Option.map_some]
       refine hK _ _ ?_
       clear hK K)
  )
  refine cnd (fun h => ?_) (fun h => ?_)
  · refine gPAS (aI @t0 <|aI @t1 <|aI @h4' <|aI @h5' <|aI @co133 <|aI @sr133 <|aI ((P133 k).iffx) <|aI @Mem.rows_new <|@Mem.rows_lit) ?_
    refine ⟨.inl rfl, by simp [hd], ?_⟩
    simp [Mem.new, Mem.set, outSet]
  · simp at h
theorem fin116 {oM : Go.Ev.Rows} {s : St} {es : List V} {k : Int} (hd : s.dfs = [(139, [.ptr ⟨1, 4, 0, 1⟩ 0 0, .ptr ⟨1, 5, 0, 1⟩ 0 0])]) (ho : s.m.out = [oM]) (h4 : s.t.get 4 = .ptr ⟨1, 4, 0, 1⟩ 0 0) (h5 : s.t.get 5 = .ptr ⟨1, 5, 0, 1⟩ 0 0)
    (r4 : s.m.row ⟨1, 4, 0, 1⟩ = some ⟨1, 64, false, false, [.sl es]⟩) (r5 : s.m.row ⟨1, 5, 0, 1⟩ = some ⟨1, 23, false, false, [vi k]⟩) :
    finQ X Tryd.f116 (.ret (.tup [.sl es, vi k]), [oM]) .ret s := by
  obtain ⟨t, ⟨own, out⟩, dfs⟩ := s
  dsimp only at hd ho h4 h5 r4 r5
  subst ho
  refine fin_ret1 (own := own) (vs := [.sl es, vi k]) hd (D139n own oM) ?_ rfl rfl
  simp (maxSteps := 2000000) (disch := omega) only [SA, ofValue, ofCell, bin, intBin, un, idx, Go.Ev.builtin, calleeOf, V.isNilS, V.depthOk, depth1, V.ok1, V.isAgg, V.cells, isConst, Nat.reduceBEq, Nat.reduceEqDiff, ↓reduceIte, Nat.reduceLeDiff, Nat.reduceAdd, Nat.reduceMul, Nat.reduceSub, Nat.reduceLT, Int.reduceAdd, Int.reduceSub, Int.reduceMul, Int.reduceLT, Int.reduceLE, Int.reduceToNat, Int.reduceNeg, reduceIte, reduceCtorEq, SPx, Tryd.results116, resVars, resVar, h4, h5, r4, r5]
theorem fin116p {oM : Go.Ev.Rows} {s : St} {x4 x5 : V} {k : Int} (hd : s.dfs = [(139, [.ptr ⟨1, 4, 0, 1⟩ 0 0, .ptr ⟨1, 5, 0, 1⟩ 0 0])]) (ho : s.m.out = [oM]) (h4 : s.t.get 4 = .ptr ⟨1, 4, 0, 1⟩ 0 0) (h5 : s.t.get 5 = .ptr ⟨1, 5, 0, 1⟩ 0 0)
    (r4 : s.m.row ⟨1, 4, 0, 1⟩ = some ⟨1, 64, false, false, [x4]⟩) (r5 : s.m.row ⟨1, 5, 0, 1⟩ = some ⟨1, 23, false, false, [x5]⟩) :
    finQ X Tryd.f116 (.ret (.tup [.sl [], vi k]), [oM]) (.panic (.ifc 23 (vi k))) s := by
  obtain ⟨t, ⟨own, out⟩, dfs⟩ := s
  dsimp only at hd ho h4 h5 r4 r5
  subst ho
  refine fin_panic1 (vs := [.rs ⟨1, 4, 500, (own.get 4 500).g + 1⟩ 0 0 0, vi k]) hd (D139p own oM k x4 x5 r4 r5) ?_ ?_ ?_
  · rw [← set_own _ [oM] 1 5 0 _ rfl, ← set_own _ [oM] 1 4 0 _ rfl, ← set_own _ [oM] 1 4 500 _ rfl]
    simp (maxSteps := 2000000) (disch := omega) only [SA, ofValue, ofCell, bin, intBin, un, idx, Go.Ev.builtin, calleeOf, V.isNilS, V.depthOk, depth1, V.ok1, V.isAgg, V.cells, isConst, Nat.reduceBEq, Nat.reduceEqDiff, ↓reduceIte, Nat.reduceLeDiff, Nat.reduceAdd, Nat.reduceMul, Nat.reduceSub, Nat.reduceLT, Int.reduceAdd, Int.reduceSub, Int.reduceMul, Int.reduceLT, Int.reduceLE, Int.reduceToNat, Int.reduceNeg, reduceIte, reduceCtorEq, SPx, Tryd.results116, resVars, resVar, h4, h5, r4, r5]
  · rw [← set_own _ [oM] 1 5 0 _ rfl, ← set_own _ [oM] 1 4 0 _ rfl, ← set_own _ [oM] 1 4 500 _ rfl]
    simp (maxSteps := 2000000) (disch := omega) only [SA, ofValue, ofCell, bin, intBin, un, idx, Go.Ev.builtin, calleeOf, V.isNilS, V.depthOk, depth1, V.ok1, V.isAgg, V.cells, isConst, Nat.reduceBEq, Nat.reduceEqDiff, ↓reduceIte, Nat.reduceLeDiff, Nat.reduceAdd, Nat.reduceMul, Nat.reduceSub, Nat.reduceLT, Int.reduceAdd, Int.reduceSub, Int.reduceMul, Int.reduceLT, Int.reduceLE, Int.reduceToNat, Int.reduceNeg, reduceIte, reduceCtorEq, SPx, SAx, resOf, X_own, mv_tup, mv2s_cons, mv2s_nil, mv2_int, cut, List.take_zero, List.drop_zero]
  · exact frzR_own (fun r ty off len hm => by
      simp [resOf, leaves, leaves2] at hm
      rw [hm.1]; rfl)
theorem M116 (g : FuncId) (cap : List V) (oM : Go.Ev.Rows) (r : Res) (hcap : cap.any V.loose = true) (hco : callOk Tryd.prog g = true) (hsr : scalarRes Tryd.prog g = false) (hg : ∀ own, AnsAt X g cap [own, oM] r)
    (R : Res) (hR : (∃ es, r = .ret (.sl es) ∧ R = .ret (.tup [.sl es, vi 0])) ∨ (∃ k, r = .panic (.ifc 23 (vi k)) ∧ R = .ret (.tup [.sl [], vi k]))) :
    AnsAt X 116 [vi 0, .fn g [] cap] [oM] R := by
  have hne : cap.isEmpty = false := by cases cap with | nil => simp at hcap | cons _ _ => rfl
  refine ⟨rfl, by simp [V.refs, V.loose, hne], fun v hv => ?_, ?_⟩
  · rcases hR with ⟨es, _, rfl⟩ | ⟨k, _, rfl⟩
    · injection hv with hv; subst hv; rfl
    · injection hv with hv; subst hv; rfl
  refine runsAt_of (X := X) (fn := Tryd.f116) Tryd.func116 rfl ⟨by decide +kernel, Nat.le_of_ble_eq_true rfl⟩ ?_
  have hd : (enter [vi 0, V.fn g [] cap] [oM]).dfs = [] := rfl
  have h0 : (enter [vi 0, V.fn g [] cap] [oM]).t.get 0 = vi 0 := rfl
  have h1 : (enter [vi 0, V.fn g [] cap] [oM]).t.get 1 = .fn g [] cap := rfl
  have hm : (enter [vi 0, V.fn g [] cap] [oM]).m = ⟨.nil, [oM]⟩ := rfl
  generalize enter [vi 0, V.fn g [] cap] [oM] = s at *
  refine gPA (aI @h0 <|aI @h1 <|@hm) ?_
  refine cnd (fun h => ?_) (fun h => ?_)
  · simp at h
  refine gPA (aI @h0 <|aI @h1 <|@hm) ?_
  have key : ∀ (m : Mem) (dst : Nat) (K KP : V → Mem → Prop), m.out = [oM] → CallQ X g cap m dst K KP = (match r with | .ret v => K v m | .panic v => KP v m) := by
    intro m dst K KP hmo
    have hh := hg m.own
    rw [← hmo] at hh
    cases r with
    | ret v => exact propext hh.iff
    | panic v => exact propext hh.panics
  with_reducible refine W_region_k ?_
  intro K hK
  simp (maxSteps := 2000000) (disch := omega) only [SA, ofValue, ofCell, bin, intBin, un, idx, Go.Ev.builtin, calleeOf, V.isNilS, V.depthOk, depth1, V.ok1, V.isAgg, V.cells, isConst, Nat.reduceBEq, Nat.reduceEqDiff, ↓reduceIte, Nat.reduceLeDiff, Nat.reduceAdd, Nat.reduceMul, Nat.reduceSub, Nat.reduceLT, Int.reduceAdd, Int.reduceSub, Int.reduceMul, Int.reduceLT, Int.reduceLE, Int.reduceToNat, Int.reduceNeg, reduceIte, reduceCtorEq, SPx, SAx, h0, h1, hm, hd, hco, hsr]
  rw [key _ _ _ _ rfl]
  rcases hR with ⟨es, rfl, rfl⟩ | ⟨k, rfl, rfl⟩
  · simp (maxSteps := 2000000) (disch := omega) only [SA, ofValue, ofCell, bin, intBin, un, idx, Go.Ev.builtin, calleeOf, V.isNilS, V.depthOk, depth1, V.ok1, V.isAgg, V.cells, isConst, Nat.reduceBEq, Nat.reduceEqDiff, ↓reduceIte, Nat.reduceLeDiff, Nat.reduceAdd, Nat.reduceMul, Nat.reduceSub, Nat.reduceLT, Int.reduceAdd, Int.reduceSub, Int.reduceMul, Int.reduceLT, Int.reduceLE, Int.reduceToNat, Int.reduceNeg, reduceIte, reduceCtorEq, SPx, SAx, SSx, appendTo, elemsOf]
    refine hK _ _ ?_
    clear hK K
    refine gP @Nat.zero_add ?_
    refine fin116 (es := es) (k := 0) ?_ ?_ ?_ ?_ ?_ ?_
    all_goals (try refine f0 @hd ?_);all_goals try exact True.intro
    all_goals first | rfl | simp [Mem.new, Mem.set]
  · simp (maxSteps := 2000000) (disch := omega) only [SA, ofValue, ofCell, bin, intBin, un, idx, Go.Ev.builtin, calleeOf, V.isNilS, V.depthOk, depth1, V.ok1, V.isAgg, V.cells, isConst, Nat.reduceBEq, Nat.reduceEqDiff, ↓reduceIte, Nat.reduceLeDiff, Nat.reduceAdd, Nat.reduceMul, Nat.reduceSub, Nat.reduceLT, Int.reduceAdd, Int.reduceSub, Int.reduceMul, Int.reduceLT, Int.reduceLE, Int.reduceToNat, Int.reduceNeg, reduceIte, reduceCtorEq, SPx, SAx, SSx, appendTo, elemsOf]
    refine hK _ _ ?_
    clear hK K
    refine gP @Nat.zero_add ?_
    refine fin116p (k := k) (x4 := .rs ⟨1, 4, 1, 1⟩ 0 0 0) (x5 := vi 0) ?_ ?_ ?_ ?_ ?_ ?_
    all_goals (try refine f0 @hd ?_);all_goals try exact True.intro
    all_goals first | rfl | simp [Mem.new, Mem.set]
theorem M116e (e : Int) (he : e ≠ 0) (g : FuncId) (cap : List V) (oM : Go.Ev.Rows) (hcap : cap.any V.loose = true) : AnsAt X 116 [vi e, .fn g [] cap] [oM] (.ret (.tup [.sl [], vi e])) := by
  have hne : cap.isEmpty = false := by cases cap with | nil => simp at hcap | cons _ _ => rfl
  refine ⟨rfl, by simp [V.refs, V.loose, hne], fun v hv => ?_, ?_⟩
  · injection hv with hv; subst hv; rfl
  refine runsAt_of (X := X) (fn := Tryd.f116) Tryd.func116 rfl ⟨by decide +kernel, Nat.le_of_ble_eq_true rfl⟩ ?_
  have hd : (enter [vi e, V.fn g [] cap] [oM]).dfs = [] := rfl
  have h0 : (enter [vi e, V.fn g [] cap] [oM]).t.get 0 = vi e := rfl
  have h1 : (enter [vi e, V.fn g [] cap] [oM]).t.get 1 = .fn g [] cap := rfl
  have hm : (enter [vi e, V.fn g [] cap] [oM]).m = ⟨.nil, [oM]⟩ := rfl
  generalize enter [vi e, V.fn g [] cap] [oM] = s at *
  refine gPA (aI @h0 <|aI @h1 <|@hm) ?_
  refine cnd (fun h => ?_) (fun h => ?_)
  · refine gPA (aI @h0 <|aI @h1 <|@hm) ?_
    refine fin_ret (X := X) (fn := Tryd.f116) (vs := [.rs ⟨1, 4, 1, 1⟩ 0 0 0, vi e]) hd ?_ ?_ ?_
    · simp (maxSteps := 2000000) (disch := omega) only [SA, ofValue, ofCell, bin, intBin, un, idx, Go.Ev.builtin, calleeOf, V.isNilS, V.depthOk, depth1, V.ok1, V.isAgg, V.cells, isConst, Nat.reduceBEq, Nat.reduceEqDiff, ↓reduceIte, Nat.reduceLeDiff, Nat.reduceAdd, Nat.reduceMul, Nat.reduceSub, Nat.reduceLT, Int.reduceAdd, Int.reduceSub, Int.reduceMul, Int.reduceLT, Int.reduceLE, Int.reduceToNat, Int.reduceNeg, reduceIte, reduceCtorEq, SPx, SAx, Tryd.results116, resVars, resVar]
    · simp (maxSteps := 2000000) (disch := omega) only [SA, ofValue, ofCell, bin, intBin, un, idx, Go.Ev.builtin, calleeOf, V.isNilS, V.depthOk, depth1, V.ok1, V.isAgg, V.cells, isConst, Nat.reduceBEq, Nat.reduceEqDiff, ↓reduceIte, Nat.reduceLeDiff, Nat.reduceAdd, Nat.reduceMul, Nat.reduceSub, Nat.reduceLT, Int.reduceAdd, Int.reduceSub, Int.reduceMul, Int.reduceLT, Int.reduceLE, Int.reduceToNat, Int.reduceNeg, reduceIte, reduceCtorEq, SPx, SAx, resOf, X_own, mv_tup, mv2s_cons, mv2s_nil, mv2_int, cut, List.take_zero, List.drop_zero]
    · refine (frzR_own (fun r ty off len hm => ?_)).trans ?_
      · simp [resOf, leaves, leaves2] at hm
        rw [hm.1]; rfl
      · rfl
  · exact absurd (by simpa using h) he
end Go.Proofs.YtpocekfifokndaaDoor
namespace Go.Proofs.YtpocekfifokndaaDoor
open Go Go.Ev Go.Pl
set_option maxRecDepth 100000
set_option maxHeartbeats 4000000
def partsN (d : Nat) : List Nat := if 20 < d then [d / 10 * 10, d % 10] else [d]
theorem rep22 (v : V) : List.replicate 2 v = [v, v] := rfl
def selP (h n : Nat) : Bool := decide (0 < n) && decide (0 < h)
def byE (h : Nat) : List Nat → List (Nat × Nat)
  | [] => []
  | d :: ds => ((partsN d).filter (selP h)).map (fun n => (n, ds.length)) ++ byE h ds
def okP (N : Nat) (p : Nat × Nat) : Bool := decide (goodP (N * p.1) (p.2 : Int))
def plV (N : Nat) (L : List (Nat × Nat)) : List V := L.map fun p => placeV (N * p.1) (p.2 : Int)
theorem plV_length (N : Nat) (L : List (Nat × Nat)) : (plV N L).length = L.length := by simp [plV]
theorem plV_snoc (N : Nat) (L : List (Nat × Nat)) (n sh : Nat) : plV N L ++ [.agg [.sl (nats (digB (N * n))), vi (if N * n = 0 then 0 else (sh : Int) + vz (N * n))]] = plV N (L ++ [(n, sh)]) := by simp [plV, placeV]
theorem cut_pl (N : Nat) (L : List (Nat × Nat)) : cut (plV N L) 0 L.length = plV N L := by unfold cut; rw [List.drop_zero, List.take_of_length_le (by rw [plV_length]; exact Nat.le_refl _)]
def byRes (N h : Nat) (b : List Nat) : Res := if (byE h b).all (okP N) = true then .ret (.sl (plV N (byE h b))) else .panic (.ifc 23 (vi 3))
theorem byE_zero : ∀ b, byE 0 b = []
  | [] => rfl
  | d :: ds => by
    rw [byE, byE_zero ds, List.append_nil, List.map_eq_nil_iff, List.filter_eq_nil_iff]
    intro n _
    simp [selP]
theorem partsN_len (d : Nat) : (partsN d).length ≤ 2 := by unfold partsN; split <;> simp
theorem partsN_lt {d n : Nat} (hd : d < 60) (h : n ∈ partsN d) : n < 60 := by
  unfold partsN at h
  split at h
  · simp at h; omega
  · simp at h; omega
theorem filter_take_succ {l : List Nat} {j n : Nat} (p : Nat → Bool) (h : l[j]? = some n) : (l.take (j + 1)).filter p = (l.take j).filter p ++ if p n = true then [n] else [] := by
  rw [List.take_add_one, h, List.filter_append]
  congr 1
  by_cases c : p n = true
  · simp [c]
  · simp [c]
theorem P117 (lb lh : List Nat) (hb : ∀ d ∈ lb, d < 60) (hbl : lb.length ≤ 16) (hh : ∀ d ∈ lh, d < 60) (hhl : lh.length ≤ 16) (N : Nat) (hNe : numL lh.reverse = N) (o1 oM : Go.Ev.Rows)
    (hA : (⟨oM, []⟩ : Mem).row ⟨0, 3, 0, 1⟩ = some ⟨1, 22, false, false, [.sl (nats lb)]⟩) (hB : (⟨oM, []⟩ : Mem).row ⟨0, 2, 0, 1⟩ = some ⟨1, 22, false, false, [.sl (nats lh)]⟩) :
    AnsAt X 117 [.ptr ⟨0, 3, 0, 1⟩ 0 0, .ptr ⟨0, 2, 0, 1⟩ 0 0] [o1, oM] (byRes N lh.length lb) := by
  refine ⟨rfl, rfl, fun v hv => ?_, ?_⟩
  · unfold byRes at hv
    split at hv
    · injection hv with hv; subst hv; rfl
    · cases hv
  refine runsAt_of (X := X) (fn := Tryd.f117) Tryd.func117 rfl ⟨by decide +kernel, Nat.le_of_ble_eq_true rfl⟩ ?_
  have hd : (enter [V.ptr ⟨0, 3, 0, 1⟩ 0 0, V.ptr ⟨0, 2, 0, 1⟩ 0 0] [o1, oM]).dfs = [] := rfl
  have h0 : (enter [V.ptr ⟨0, 3, 0, 1⟩ 0 0, V.ptr ⟨0, 2, 0, 1⟩ 0 0] [o1, oM]).t.get 0 = .ptr ⟨0, 3, 0, 1⟩ 0 0 := rfl
  have h1 : (enter [V.ptr ⟨0, 3, 0, 1⟩ 0 0, V.ptr ⟨0, 2, 0, 1⟩ 0 0] [o1, oM]).t.get 1 = .ptr ⟨0, 2, 0, 1⟩ 0 0 := rfl
  have hm : (enter [V.ptr ⟨0, 3, 0, 1⟩ 0 0, V.ptr ⟨0, 2, 0, 1⟩ 0 0] [o1, oM]).m = ⟨.nil, [o1, oM]⟩ := rfl
  generalize enter [V.ptr ⟨0, 3, 0, 1⟩ 0 0, V.ptr ⟨0, 2, 0, 1⟩ 0 0] [o1, oM] = s at *
  have hA' : (⟨.nil, [o1, oM]⟩ : Mem).row ⟨0, 3, 0, 1⟩ = some ⟨1, 22, false, false, [.sl (nats lb)]⟩ := by rw [row_outer _ _ _ _ (by simp), row_outer _ _ _ _ (by simp), hA]
  have hB' : (⟨.nil, [o1, oM]⟩ : Mem).row ⟨0, 2, 0, 1⟩ = some ⟨1, 22, false, false, [.sl (nats lh)]⟩ := by rw [row_outer _ _ _ _ (by simp), row_outer _ _ _ _ (by simp), hB]
  have hNb : N < 60 ^ 16 := by
    have := Go.Pl.num_lt (l := lh.reverse) (fun d hd => hh d (List.mem_reverse.1 hd))
    rw [List.length_reverse, hNe] at this
    exact lt_pow_mono this hhl
  refine gPAS (aI @h0 <|aI @h1 <|aI @hm <|aI @hA' <|@nats_length) ?_
  refine W_loopg (fun (x : Nat × List (Nat × Nat)) s => s.dfs = [] ∧ s.m.out = [o1, oM] ∧ s.t.get 0 = .ptr ⟨0, 3, 0, 1⟩ 0 0 ∧ s.t.get 1 = .ptr ⟨0, 2, 0, 1⟩ 0 0 ∧ s.t.get 10 = .sl (nats lb) ∧ s.t.get 11 = vn lb.length ∧ s.t.get 12 = vn x.1 ∧
    s.m.row ⟨0, 3, 0, 1⟩ = some ⟨1, 22, false, false, [.sl (nats lb)]⟩ ∧ s.m.row ⟨0, 2, 0, 1⟩ = some ⟨1, 22, false, false, [.sl (nats lh)]⟩ ∧ HeldD s.m 2 3 1 54 (s.t.get 3) (plV N x.2) ∧
    x.1 ≤ lb.length ∧ x.2.length ≤ 2 * x.1 ∧ x.2.all (okP N) = true ∧ byE lh.length lb = x.2 ++ byE lh.length (lb.drop x.1)) (fun x => lb.length - x.1) (0, []) ?_ ?_
  · refine ⟨hd, ?_, ?_, ?_, ?_, ?_, ?_, ?_, ?_, ⟨1, 0, ?_, ?_, .inr ⟨rfl, rfl⟩⟩, Nat.zero_le _, Nat.zero_le _, rfl, rfl⟩
    all_goals (try refine fS (aI @h0 <|aI @h1 <|aI @hm <|aI @hA' <|@hB') ?_);all_goals try exact True.intro
    all_goals rfl
  clear hd h0 h1 hm hA' hB' hA hB
  rintro ⟨i, acc⟩ s ⟨hd, ho, h0, h1, h10, h11, h12, rA, rB, ⟨g, ty, h3, r3, hty⟩, hi, hal, hok, hby⟩
  dsimp only at h12 h3 r3 hty hi hal hok hby
  rw [plV_length] at h3 hty
  refine gP (aI @h11 <|@h12) ?_
  refine cnd (fun h => ?_) (fun h => ?_)
  · have hi' : i < lb.length := by have := of_decide_eq_true h; omega
    clear h
    obtain ⟨d, hdi⟩ : ∃ d, lb[i]? = some d := ⟨lb[i], by simp⟩
    have hd60 := hb d (List.mem_of_getElem? hdi)
    have hdrop : lb.drop i = d :: lb.drop (i + 1) := by
      rw [List.drop_eq_getElem_cons hi']
      congr 1
      rw [List.getElem?_eq_getElem hi'] at hdi
      exact Option.some.inj hdi
    rw [hdrop, byE, List.length_drop] at hby
    generalize hsh : lb.length - (i + 1) = sh at hby
    have hsh16 : sh ≤ 16 := by omega
    have q86 := P86 lh (sh : Int) (72 + sh) (by omega) hh (by omega)
    rw [hNe] at q86
    have es : V.int .i64 (wr .i64 (wr .i64 ((lb.length : Int) - 1) - (i : Int))) = vi (sh : Int) := by
      rw [wr_i64 (n := (lb.length : Int) - 1) (by omega) (by omega), wr_i64 (by omega) (by omega)]; congr 1; omega
    have hii : (i : Int) < (lb.length : Int) := by omega
    have hi0 : (0 : Int) ≤ (i : Int) := by omega
    have e1 : V.int .i64 (wr .i64 ((i : Int) + 1)) = vn (i + 1) := by rw [wr_i64 (by omega) (by omega)]; rfl
    refine gPASW (aI @h0 <|aI @h1 <|aI @h3 <|aI @h10 <|aI @h11 <|aI @h12 <|aI @rA <|aI @rB <|aI @r3 <|aI @ho <|aI @nats_get? <|aI @hdi <|aI @nats_length <|aI @hii <|aI @hi0 <|aI @es <|aI @co86 <|aI @sr86 <|aI @q86.iffx <|@wvOk) ?_
    refine W_mid (fun s' => s'.dfs = [] ∧ s'.m.out = [o1, oM] ∧ s'.t.get 0 = .ptr ⟨0, 3, 0, 1⟩ 0 0 ∧ s'.t.get 1 = .ptr ⟨0, 2, 0, 1⟩ 0 0 ∧ s'.t.get 10 = .sl (nats lb) ∧ s'.t.get 11 = vn lb.length ∧ s'.t.get 12 = vn i ∧
      s'.t.get 3 = .rs ⟨2, 3, 1, g⟩ ty 0 acc.length ∧ s'.t.get 6 = .fn 115 [wv (N * 60 ^ (72 + sh))] [] ∧ s'.m.row ⟨0, 3, 0, 1⟩ = some ⟨1, 22, false, false, [.sl (nats lb)]⟩ ∧ s'.m.row ⟨0, 2, 0, 1⟩ = some ⟨1, 22, false, false, [.sl (nats lh)]⟩ ∧
      s'.m.row ⟨2, 3, 1, g⟩ = some ⟨g, ty, true, false, plV N acc⟩ ∧ ∃ sl g', (sl = 26 ∨ sl = 34) ∧ s'.t.get 7 = .rs ⟨2, sl, 0, g'⟩ 3 0 (partsN d).length ∧ s'.m.row ⟨2, sl, 0, g'⟩ = some ⟨g', 3, true, false, nats (partsN d)⟩) ?_ ?_
    · by_cases c : 20 < d
      · have hp : partsN d = [d / 10 * 10, d % 10] := by rw [partsN, if_pos c]
        rw [hp]
        have g1 : V.int .i64 (wr .i64 (wr .i64 (Int.tdiv (d : Int) 10) * 10)) = vn (d / 10 * 10) := by
          rw [show Int.tdiv (d : Int) 10 = ((d / 10 : Nat) : Int) from rfl, wr_nat (by omega), show ((d / 10 : Nat) : Int) * 10 = ((d / 10 * 10 : Nat) : Int) from rfl, wr_nat (by omega)]
        have g2 : V.int .i64 (Int.tmod (d : Int) 10) = vn (d % 10) := rfl
        have c' : (d : Int) > 20 := by omega
        refine cnd (fun h => ?_) (fun h => ?_)
        · refine gPASWC (aI @h0 <|aI @h1 <|aI @h3 <|aI @h10 <|aI @h11 <|aI @h12 <|aI @rA <|aI @rB <|aI @r3 <|aI @ho <|aI @g1 <|aI @g2 <|@rep22) ?_
          refine ⟨hd, ?_, ?_, ?_, ?_, ?_, ?_, ?_, ?_, ?_, ?_, ?_, 34, s.m.gen 34 0 + 1, .inr rfl, ?_, ?_⟩
          all_goals (try refine fSW (aI @h0 <|aI @h1 <|aI @h3 <|aI @h10 <|aI @h11 <|aI @h12 <|aI @rA <|aI @rB <|aI @r3 <|@ho) ?_);all_goals try exact True.intro
          all_goals first | rfl | simp [Mem.new, Mem.set, ho]
        · simp at h; omega
      · have hp : partsN d = [d] := by rw [partsN, if_neg c]
        rw [hp]
        refine cnd (fun h => ?_) (fun h => ?_)
        · simp at h; omega
        · refine gP @Nat.zero_add ?_
          refine ⟨hd, ?_, ?_, ?_, ?_, ?_, ?_, ?_, ?_, ?_, ?_, ?_, 26, s.m.gen 26 0 + 1, .inl rfl, ?_, ?_⟩
          all_goals (try refine fSW (aI @h0 <|aI @h1 <|aI @h3 <|aI @h10 <|aI @h11 <|aI @h12 <|aI @rA <|aI @rB <|aI @r3 <|@ho) ?_);all_goals try exact True.intro
          all_goals first | rfl | simp [Mem.new, Mem.set, ho]
    clear hd ho h0 h1 h3 h10 h11 h12 rA rB r3 q86 es
    rintro s ⟨hd, ho, h0, h1, h10, h11, h12, h3, h6, rA, rB, r3, sl, g', hsl, h7, r7⟩
    have hp60 : ∀ n ∈ partsN d, n < 60 := fun n hn => partsN_lt hd60 hn
    have hp2 := partsN_len d
    generalize partsN d = P at *
    have n3 : ¬ sl = 3 := by omega
    have n53 : ¬ sl = 53 := by omega
    clear hsl
    refine gP @h7 ?_
    refine W_loopg (fun (x : Nat × List (Nat × Nat)) s => s.dfs = [] ∧ s.m.out = [o1, oM] ∧ s.t.get 0 = .ptr ⟨0, 3, 0, 1⟩ 0 0 ∧ s.t.get 1 = .ptr ⟨0, 2, 0, 1⟩ 0 0 ∧ s.t.get 10 = .sl (nats lb) ∧ s.t.get 11 = vn lb.length ∧ s.t.get 12 = vn i ∧
      s.t.get 6 = .fn 115 [wv (N * 60 ^ (72 + sh))] [] ∧ s.t.get 35 = .rs ⟨2, sl, 0, g'⟩ 3 0 P.length ∧ s.t.get 36 = vn P.length ∧ s.t.get 37 = vn x.1 ∧
      s.m.row ⟨0, 3, 0, 1⟩ = some ⟨1, 22, false, false, [.sl (nats lb)]⟩ ∧ s.m.row ⟨0, 2, 0, 1⟩ = some ⟨1, 22, false, false, [.sl (nats lh)]⟩ ∧ s.m.row ⟨2, sl, 0, g'⟩ = some ⟨g', 3, true, false, nats P⟩ ∧ HeldD s.m 2 3 1 54 (s.t.get 3) (plV N x.2) ∧
      x.1 ≤ P.length ∧ x.2.length ≤ 2 * i + x.1 ∧ x.2.all (okP N) = true ∧ x.2 = acc ++ ((P.take x.1).filter (selP lh.length)).map (fun n => (n, sh))) (fun x => P.length - x.1) (0, acc) ?_ ?_
    · refine ⟨hd, ?_, ?_, ?_, ?_, ?_, ?_, ?_, ?_, ?_, ?_, ?_, ?_, ?_, ⟨g, ty, ?_, ?_, ?_⟩, Nat.zero_le _, hal, hok, by simp⟩
      all_goals (try refine fSW (aI @h0 <|aI @h1 <|aI @h3 <|aI @h6 <|aI @h10 <|aI @h11 <|aI @h12 <|aI @rA <|aI @rB <|aI @r3 <|aI @r7 <|aI @ho <|@plV_length) ?_);all_goals try exact True.intro
      all_goals first | rfl | exact hty
    clear hd ho h0 h1 h3 h6 h7 h10 h11 h12 rA rB r3 r7 hty
    rintro ⟨j, acc'⟩ s ⟨hd, ho, h0, h1, h10, h11, h12, h6, h35, h36, h37, rA, rB, r7, ⟨g2, ty2, h3, r3, hty⟩, hj, hal', hok', hacc⟩
    dsimp only at h37 h3 r3 hty hj hal' hok' hacc
    rw [plV_length] at h3 hty
    refine gP (aI @h36 <|@h37) ?_
    refine cnd (fun h => ?_) (fun h => ?_)
    · have hj' : j < P.length := by have := of_decide_eq_true h; omega
      clear h
      obtain ⟨n, hn⟩ : ∃ n, P[j]? = some n := ⟨P[j], by simp⟩
      have hn60 := hp60 n (List.mem_of_getElem? hn)
      have hfs := filter_take_succ (selP lh.length) hn
      have hjj : (j : Int) < (P.length : Int) := by omega
      have hj0 : (0 : Int) ≤ (j : Int) := by omega
      have f1 : V.int .i64 (wr .i64 ((j : Int) + 1)) = vn (j + 1) := by rw [wr_i64 (by omega) (by omega)]; rfl
      by_cases c : selP lh.length n = true
      · have c0 := c
        unfold selP at c0
        simp only [Bool.and_eq_true, decide_eq_true_eq] at c0
        have c1 : (n : Int) > 0 := by omega
        have c2 : (lh.length : Int) > 0 := by omega
        rw [if_pos c] at hfs
        have hpw : (60 : Nat) ^ (72 + sh) ≤ 60 ^ 88 := Nat.pow_le_pow_right (by decide) (by omega)
        have hbase : N * 60 ^ (72 + sh) < 60 ^ 168 :=
          Nat.lt_of_lt_of_le (Nat.mul_lt_mul_of_pos_right hNb (pow_pos _)) (Nat.le_trans (Nat.mul_le_mul_left _ hpw) (by decide))
        have hM2 : N * 60 ^ (72 + sh) * n < 60 ^ 168 := by
          have e1 : N * 60 ^ (72 + sh) ≤ 60 ^ 16 * 60 ^ 88 := Nat.mul_le_mul (Nat.le_of_lt hNb) hpw
          exact Nat.lt_of_le_of_lt (Nat.mul_le_mul e1 (Nat.le_of_lt hn60)) (by decide)
        have q1 := P115 (N * 60 ^ (72 + sh)) n hbase (by omega)
        rw [if_pos hM2, Nat.mul_right_comm] at q1
        rw [Nat.mul_right_comm] at hM2
        have q2 := P81 _ hM2
        rw [placeRes_at (N * n) (72 + sh) (sh : Int) (by omega)] at q2
        clear hbase hM2 hpw
        by_cases c3 : goodP (N * n) (sh : Int)
        · rw [if_pos c3] at q2
          unfold placeV at q2
          have hok2 : (acc' ++ [(n, sh)]).all (okP N) = true := by
            rw [List.all_append, hok']
            simp only [List.all_cons, List.all_nil, Bool.and_true, Bool.true_and]
            exact decide_eq_true c3
          clear c3
          refine gPASW (aI @h0 <|aI @h1 <|aI @h3 <|aI @h6 <|aI @h35 <|aI @h36 <|aI @h37 <|aI @rA <|aI @rB <|aI @r3 <|aI @r7 <|aI @hn <|aI @nats_get? <|aI @nats_length <|aI @hjj <|aI @hj0 <|aI @n3 <|aI @n53 <|aI @ho <|aI @c1 <|@c2) ?_
          refine cnd (fun h => ?_) (fun h => ?_)
          · refine gPASW (aI @h3 <|aI @h6 <|aI @h37 <|aI @r3 <|aI @hty <|aI @ho <|aI @n3 <|aI @n53 <|aI @co115 <|aI @sr115 <|aI @q1.iffx <|aI @co81 <|aI @sr81 <|aI @q2.iffx <|aI @plV_length <|aI @cut_pl <|aI @plV_snoc <|@f1) ?_
            refine ⟨(j + 1, acc' ++ [(n, sh)]), ⟨hd, ?_, ?_, ?_, ?_, ?_, ?_, ?_, ?_, ?_, ?_, ?_, ?_, ?_, ⟨g2 + 1, 54, ?_, ?_, .inl rfl⟩, hj', by simp; omega, hok2, ?_⟩, by dsimp only; omega⟩
            all_goals (try refine fSW (aI @h0 <|aI @h1 <|aI @h6 <|aI @h10 <|aI @h11 <|aI @h12 <|aI @h35 <|aI @h36 <|aI @rA <|aI @rB <|aI @r7 <|aI @ho <|aI @n3 <|aI @n53 <|@plV_length) ?_);all_goals try exact True.intro
            · simp [Mem.new, Mem.set, ho]
            · rw [hfs, List.map_append, ← List.append_assoc, ← hacc]; rfl
          · simp at h
        · rw [if_neg c3] at q2
          have hno : ¬ (byE lh.length lb).all (okP N) = true := by
            rw [List.all_eq_true]
            intro hall
            have hmem : (n, sh) ∈ byE lh.length lb := by
              rw [hby]
              refine List.mem_append_right _ (List.mem_append_left _ (List.mem_map.2 ⟨n, List.mem_filter.2 ⟨List.mem_of_getElem? hn, c⟩, rfl⟩))
            exact c3 (of_decide_eq_true (hall _ hmem))
          rw [byRes, if_neg hno]
          clear hno c3
          refine gPASW (aI @h0 <|aI @h1 <|aI @h3 <|aI @h6 <|aI @h35 <|aI @h36 <|aI @h37 <|aI @rA <|aI @rB <|aI @r3 <|aI @r7 <|aI @hn <|aI @nats_get? <|aI @nats_length <|aI @hjj <|aI @hj0 <|aI @n3 <|aI @n53 <|aI @ho <|aI @c1 <|@c2) ?_
          refine cnd (fun h => ?_) (fun h => ?_)
          · refine gPASW (aI @h3 <|aI @h6 <|aI @h37 <|aI @r3 <|aI @hty <|aI @ho <|aI @n3 <|aI @n53 <|aI @co115 <|aI @sr115 <|aI @q1.iffx <|aI @co81 <|aI @sr81 <|@q2.panicsx) ?_
            refine fin_panic hd rfl ?_
            simp [Mem.new, Mem.set, ho]
          · simp at h
      · rw [if_neg c, List.append_nil] at hfs
        unfold selP at c
        simp only [Bool.and_eq_true, decide_eq_true_eq] at c
        by_cases c0 : 0 < n
        · have c1 : (n : Int) > 0 := by omega
          have c2 : ¬ (lh.length : Int) > 0 := by omega
          refine gPASW (aI @h0 <|aI @h1 <|aI @h3 <|aI @h6 <|aI @h35 <|aI @h36 <|aI @h37 <|aI @rA <|aI @rB <|aI @r3 <|aI @r7 <|aI @hn <|aI @nats_get? <|aI @nats_length <|aI @hjj <|aI @hj0 <|aI @n3 <|aI @n53 <|aI @ho <|aI @c1 <|@c2) ?_
          refine cnd (fun h => ?_) (fun h => ?_)
          · simp at h
          refine gP (aI @h37 <|@f1) ?_
          refine ⟨(j + 1, acc'), ⟨hd, ?_, ?_, ?_, ?_, ?_, ?_, ?_, ?_, ?_, ?_, ?_, ?_, ?_, ⟨g2, ty2, ?_, ?_, ?_⟩, hj', by dsimp only; omega, hok', by rw [hfs]; exact hacc⟩, by dsimp only; omega⟩
          all_goals (try refine fSW (aI @h0 <|aI @h1 <|aI @h3 <|aI @h6 <|aI @h10 <|aI @h11 <|aI @h12 <|aI @h35 <|aI @h36 <|aI @rA <|aI @rB <|aI @r3 <|aI @r7 <|aI @ho <|aI @n3 <|aI @n53 <|@plV_length) ?_);all_goals try exact True.intro
          exact hty
        · have c1 : ¬ (n : Int) > 0 := by omega
          refine gPASW (aI @h0 <|aI @h1 <|aI @h3 <|aI @h6 <|aI @h35 <|aI @h36 <|aI @h37 <|aI @rA <|aI @rB <|aI @r3 <|aI @r7 <|aI @hn <|aI @nats_get? <|aI @nats_length <|aI @hjj <|aI @hj0 <|aI @n3 <|aI @n53 <|aI @ho <|@c1) ?_
          refine cnd (fun h => ?_) (fun h => ?_)
          · simp at h
          refine gP (aI @h37 <|@f1) ?_
          refine ⟨(j + 1, acc'), ⟨hd, ?_, ?_, ?_, ?_, ?_, ?_, ?_, ?_, ?_, ?_, ?_, ?_, ?_, ⟨g2, ty2, ?_, ?_, ?_⟩, hj', by dsimp only; omega, hok', by rw [hfs]; exact hacc⟩, by dsimp only; omega⟩
          all_goals (try refine fSW (aI @h0 <|aI @h1 <|aI @h3 <|aI @h6 <|aI @h10 <|aI @h11 <|aI @h12 <|aI @h35 <|aI @h36 <|aI @rA <|aI @rB <|aI @r3 <|aI @r7 <|aI @ho <|aI @n3 <|aI @n53 <|@plV_length) ?_);all_goals try exact True.intro
          exact hty
    · have hjl : j = P.length := by have := of_decide_eq_false h; omega
      subst hjl
      rw [List.take_length] at hacc
      refine gP (aI @h12 <|@e1) ?_
      refine ⟨(i + 1, acc'), ⟨hd, ?_, ?_, ?_, ?_, ?_, ?_, ?_, ?_, ⟨g2, ty2, ?_, ?_, ?_⟩, by omega, by dsimp only; omega, hok', ?_⟩, by dsimp only; omega⟩
      all_goals (try refine fSW (aI @h0 <|aI @h1 <|aI @h3 <|aI @h10 <|aI @h11 <|aI @h12 <|aI @rA <|aI @rB <|aI @r3 <|aI @ho <|@plV_length) ?_);all_goals try exact True.intro
      · exact hty
      · rw [hby, hacc]; simp
  · have hil : i = lb.length := by have := of_decide_eq_false h; omega
    subst hil
    rw [List.drop_length, byE, List.append_nil] at hby
    rw [byRes, hby, if_pos hok]
    clear h
    refine gPAS (aI @h3 <|aI @r3 <|@ho) ?_
    refine fin_ret (X := X) (fn := Tryd.f117) (vs := [.rs ⟨2, 3, 1, g⟩ ty 0 acc.length]) hd ?_ ?_ ?_
    · simp (maxSteps := 2000000) (disch := omega) only [SA, ofValue, ofCell, bin, intBin, un, idx, Go.Ev.builtin, calleeOf, V.isNilS, V.depthOk, depth1, V.ok1, V.isAgg, V.cells, isConst, Nat.reduceBEq, Nat.reduceEqDiff, ↓reduceIte, Nat.reduceLeDiff, Nat.reduceAdd, Nat.reduceMul, Nat.reduceSub, Nat.reduceLT, Int.reduceAdd, Int.reduceSub, Int.reduceMul, Int.reduceLT, Int.reduceLE, Int.reduceToNat, Int.reduceNeg, reduceIte, reduceCtorEq, SPx, Tryd.results117, resVars, resVar]
    · simp (maxSteps := 2000000) (disch := omega) only [SA, ofValue, ofCell, bin, intBin, un, idx, Go.Ev.builtin, calleeOf, V.isNilS, V.depthOk, depth1, V.ok1, V.isAgg, V.cells, isConst, Nat.reduceBEq, Nat.reduceEqDiff, ↓reduceIte, Nat.reduceLeDiff, Nat.reduceAdd, Nat.reduceMul, Nat.reduceSub, Nat.reduceLT, Int.reduceAdd, Int.reduceSub, Int.reduceMul, Int.reduceLT, Int.reduceLE, Int.reduceToNat, Int.reduceNeg, reduceIte, reduceCtorEq, SPx, SAx, resOf, X_own, r3, plV_length, cut_pl]
    · refine (frzR_own (fun r ty off len hm => ?_)).trans ho
      simp [resOf, leaves, leaves2] at hm
      rw [hm.1, ho]; rfl
def bytS (a b : List Int) : List (Nat × Nat) × Int := if chk2 a b ≠ 0 then ([], chk2 a b) else if (byE a.length (natsOf b)).all (okP (numI a)) = true then (byE a.length (natsOf b), 0) else ([], 3)
theorem P51 (a b : List Int) : Ans X 51 [.sl (ints a), .sl (ints b)] (.ret (.tup [.sl (plV (numI a) (bytS a b).1), vi (bytS a b).2])) := by
  refine call_of_X (fn := Tryd.f51) 2 Tryd.func51 rfl (by decide +kernel) rfl ?_ ?_ ?_ ?_
  · rfl
  · intro h; exact absurd h (by rw [sr51]; decide)
  · intro v hv; injection hv with hv; subst hv; rfl
  intro s hs hd ho
  have hm : s.m = ⟨.nil, []⟩ := by subst hs; rfl
  have h0 : s.t.get 0 = .sl (ints a) := by subst hs; rfl
  have h1 : s.t.get 1 = .sl (ints b) := by subst hs; rfl
  clear hs
  have key : ∀ (m : Mem) (dst : Nat) (K KP : V → Mem → Prop), m.out = [] → m.row ⟨0, 2, 0, 1⟩ = some ⟨1, 22, false, false, [.sl (ints a)]⟩ → m.row ⟨0, 3, 0, 1⟩ = some ⟨1, 22, false, false, [.sl (ints b)]⟩ →
      (CallQ X 116 [vi (chk2 a b), .fn 117 [] [.ptr ⟨0, 3, 0, 1⟩ 0 0, .ptr ⟨0, 2, 0, 1⟩ 0 0]] m dst K KP ↔ K (.tup [.sl (plV (numI a) (bytS a b).1), vi (bytS a b).2]) m) := by
    rintro ⟨own, out⟩ dst K KP ho r2 r3
    dsimp only at ho
    subst ho
    by_cases hc : chk2 a b = 0
    · obtain ⟨ha, hb⟩ := chk2_ok hc
      obtain ⟨a1, a2, a3, a4, _⟩ := chk_ok ha
      obtain ⟨b1, b2, b3, b4, _⟩ := chk_ok hb
      rw [a1] at r2
      rw [b1] at r3
      rw [hc]
      have q := fun o1 => P117 (natsOf b) (natsOf a) b2 (by omega) a2 (by omega) (numI a) rfl o1 own r3 r2
      rw [a4] at q
      by_cases c : (byE a.length (natsOf b)).all (okP (numI a)) = true
      · rw [byRes, if_pos c] at q
        refine AnsAt.iff (m := ⟨own, []⟩) (M116 117 _ own _ rfl co117 sr117 q _ (.inl ⟨_, rfl, ?_⟩))
        rw [bytS, if_neg (fun e => e hc), if_pos c]
      · rw [byRes, if_neg c] at q
        refine AnsAt.iff (m := ⟨own, []⟩) (M116 117 _ own _ rfl co117 sr117 q _ (.inr ⟨3, rfl, ?_⟩))
        rw [bytS, if_neg (fun e => e hc), if_neg c]; rfl
    · refine AnsAt.iff (m := ⟨own, []⟩) ?_
      have := M116e (chk2 a b) hc 117 [.ptr ⟨0, 3, 0, 1⟩ 0 0, .ptr ⟨0, 2, 0, 1⟩ 0 0] own rfl
      rw [bytS, if_pos hc]; exact this
  refine gPA (aI @h0 <|aI @h1 <|@hm) ?_
  with_reducible refine W_region_k ?_
  intro K hK
  simp (maxSteps := 2000000) (disch := omega) only [SA, ofValue, ofCell, bin, intBin, un, idx, Go.Ev.builtin, calleeOf, V.isNilS, V.depthOk, depth1, V.ok1, V.isAgg, V.cells, isConst, Nat.reduceBEq, Nat.reduceEqDiff, ↓reduceIte, Nat.reduceLeDiff, Nat.reduceAdd, Nat.reduceMul, Nat.reduceSub, Nat.reduceLT, Int.reduceAdd, Int.reduceSub, Int.reduceMul, Int.reduceLT, Int.reduceLE, Int.reduceToNat, Int.reduceNeg, reduceIte, reduceCtorEq, SPx, SAx, hm, co78, sr78, (P78 a b).iff, co116, sr116]
  rw [key _ _ _ _ rfl (by simp [Mem.row_new, Mem.row_setW, Mem.new_out, Mem.gen_new, Mem.gen_nil]) (by simp [Mem.row_new, Mem.row_setW, Mem.new_out, Mem.gen_new, Mem.gen_nil])]
  simp (maxSteps := 2000000) (disch := omega) only [SA, ofValue, ofCell, bin, intBin, un, idx, Go.Ev.builtin, calleeOf, V.isNilS, V.depthOk, depth1, V.ok1, V.isAgg, V.cells, isConst, Nat.reduceBEq, Nat.reduceEqDiff, ↓reduceIte, Nat.reduceLeDiff, Nat.reduceAdd, Nat.reduceMul, Nat.reduceSub, Nat.reduceLT, Int.reduceAdd, Int.reduceSub, Int.reduceMul, Int.reduceLT, Int.reduceLE, Int.reduceToNat, Int.reduceNeg, reduceIte, reduceCtorEq, SPx, SAx]
  refine hK _ _ ?_
  clear hK K
  refine gP @Nat.zero_add ?_
  refine rP hd @Tryd.results51 ?_
  try exact True.intro
end Go.Proofs.YtpocekfifokndaaDoor
namespace Go.Proofs.YtpocekfifokndaaDoor
open Go Go.Ev Go.Pl
set_option maxRecDepth 100000
set_option maxHeartbeats 4000000
theorem P52 (a b : List Int) : Ans X 52 [.sl (ints a), .sl (ints b)] (.ret (.tup [.sl (plV (numI a) (bytS a b).1), vi (bytS a b).2])) := by
  refine call_of_X (fn := Tryd.f52) 2 Tryd.func52 rfl (by decide +kernel) rfl ?_ ?_ ?_ ?_
  · rfl
  · intro h; exact absurd h (by rw [sr52]; decide)
  · intro v hv; injection hv with hv; subst hv; rfl
  intro s hs hd ho
  have hm : s.m = ⟨.nil, []⟩ := by subst hs; rfl
  have h0 : s.t.get 0 = .sl (ints a) := by subst hs; rfl
  have h1 : s.t.get 1 = .sl (ints b) := by subst hs; rfl
  clear hs
  refine gP (aI @h0 <|aI @h1 <|aI @hm <|aI @co82 <|aI @sr82 <|((P82 a b).iffx)) ?_
  refine cnd (fun h => ?_) (fun h => ?_)
  · have h : chk2 a b ≠ 0 := by simpa using h
    refine gP @hm ?_
    refine rPAS hd (aI @Tryd.results52 <|@hm) ?_
    try exact True.intro
    rw [bytS, if_pos h]; rfl
  have hc : chk2 a b = 0 := by simpa using h
  rw [bytS, if_neg (fun e => e hc)]
  obtain ⟨ha, hb⟩ := chk2_ok hc
  obtain ⟨a1, a2, a3, a4, _⟩ := chk_ok ha
  obtain ⟨b1, hb, hbl, b4, _⟩ := chk_ok hb
  rw [a1] at h0
  rw [b1] at h1
  rw [← a4]
  rw [← b4] at hbl
  have hNb := numI_lt ha
  have q85 : Ans X 85 [.sl (nats (natsOf a))] (.ret (.sl (nats (canL (numI a))))) := P85 (natsOf a) a2 (by omega)
  generalize natsOf a = lh at *
  generalize natsOf b = lb at *
  generalize numI a = N at *
  clear h hc a1 b1 b4
  have hcN : (canL N).length < 300 := Nat.lt_of_le_of_lt (canL_length_le.2 hNb) (by decide)
  refine gP @hm ?_
  refine W_loopg (fun (x : Nat × List (Nat × Nat)) s => s.dfs = [] ∧ s.m.out.length = 0 ∧ s.t.get 0 = .sl (nats lh) ∧ s.t.get 1 = .sl (nats lb) ∧ s.t.get 8 = vn x.1 ∧ HeldD s.m 0 7 1 54 (s.t.get 7) (plV N x.2) ∧
    x.1 ≤ lb.length ∧ x.2.length ≤ 2 * x.1 ∧ x.2.all (okP N) = true ∧ byE lh.length lb = x.2 ++ byE lh.length (lb.drop x.1)) (fun x => lb.length - x.1) (0, []) ?_ ?_
  · refine ⟨hd, ?_, ?_, ?_, ?_, ⟨1, 0, ?_, ?_, .inr ⟨rfl, rfl⟩⟩, Nat.zero_le _, Nat.zero_le _, rfl, rfl⟩
    all_goals (try refine fS (aI @h0 <|aI @h1 <|@hm) ?_);all_goals try exact True.intro
    all_goals rfl
  clear hd h0 h1 hm ho
  rintro ⟨i, acc⟩ s ⟨hd, ho, h0, h1, h8, ⟨g, ty, h7, r7, hty⟩, hi, hal, hok, hby⟩
  dsimp only at h8 h7 r7 hty hi hal hok hby
  rw [plV_length] at h7 hty
  by_cases c0 : (i : Int) < (lb.length : Int) ∧ (lh.length : Int) > 0
  · obtain ⟨c1, c2⟩ := c0
    have hi' : i < lb.length := by omega
    obtain ⟨d, hdi⟩ : ∃ d, lb[i]? = some d := ⟨lb[i], by simp⟩
    have hd60 := hb d (List.mem_of_getElem? hdi)
    have hdrop : lb.drop i = d :: lb.drop (i + 1) := by
      rw [List.drop_eq_getElem_cons hi']
      congr 1
      rw [List.getElem?_eq_getElem hi'] at hdi
      exact Option.some.inj hdi
    rw [hdrop, byE, List.length_drop] at hby
    generalize hsh : lb.length - (i + 1) = sh at hby
    have hsh16 : sh ≤ 16 := by omega
    have es : V.int .i64 (wr .i64 (wr .i64 ((lb.length : Int) - 1) - (i : Int))) = vi (sh : Int) := by
      rw [wr_i64 (n := (lb.length : Int) - 1) (by omega) (by omega), wr_i64 (by omega) (by omega)]; congr 1; omega
    have hi0 : (0 : Int) ≤ (i : Int) := by omega
    have e1 : V.int .i64 (wr .i64 ((i : Int) + 1)) = vn (i + 1) := by rw [wr_i64 (by omega) (by omega)]; rfl
    have c2' : decide ((lh.length : Int) > 0) = true := decide_eq_true c2
    refine gPS (aI @h0 <|aI @h1 <|aI @h8 <|aI @ho <|aI @nats_length <|aI @c1 <|aI @c2 <|aI @nats_get? <|aI @hdi <|@hi0) ?_
    refine cnd (fun h => ?_) (fun h => ?_)
    · refine gPS (aI @h0 <|aI @h1 <|aI @h8 <|aI @ho <|aI @nats_length <|aI @c1 <|aI @c2 <|aI @nats_get? <|aI @hdi <|@hi0) ?_
      refine W_mid (fun s' => s'.dfs = [] ∧ s'.m.out.length = 0 ∧ s'.t.get 0 = .sl (nats lh) ∧ s'.t.get 1 = .sl (nats lb) ∧ s'.t.get 8 = vn i ∧ s'.t.get 7 = .rs ⟨0, 7, 1, g⟩ ty 0 acc.length ∧
        s'.m.row ⟨0, 7, 1, g⟩ = some ⟨g, ty, true, false, plV N acc⟩ ∧ ∃ sl g', (sl = 34 ∨ sl = 51) ∧ s'.t.get 9 = .rs ⟨0, sl, 0, g'⟩ 3 0 (partsN d).length ∧ s'.m.row ⟨0, sl, 0, g'⟩ = some ⟨g', 3, true, false, nats (partsN d)⟩) ?_ ?_
      · by_cases c : 20 < d
        · have hp : partsN d = [d / 10 * 10, d % 10] := by rw [partsN, if_pos c]
          rw [hp]
          have g1 : V.int .i64 (wr .i64 (wr .i64 (Int.tdiv (d : Int) 10) * 10)) = vn (d / 10 * 10) := by
            rw [show Int.tdiv (d : Int) 10 = ((d / 10 : Nat) : Int) from rfl, wr_nat (by omega), show ((d / 10 : Nat) : Int) * 10 = ((d / 10 * 10 : Nat) : Int) from rfl, wr_nat (by omega)]
          have g2 : V.int .i64 (Int.tmod (d : Int) 10) = vn (d % 10) := rfl
          refine cnd (fun h => ?_) (fun h => ?_)
          · refine gPASC (aI @h0 <|aI @h1 <|aI @h7 <|aI @h8 <|aI @r7 <|aI @ho <|aI @nats_get? <|aI @nats_length <|aI @hdi <|aI @c1 <|aI @hi0 <|aI @g1 <|aI @g2 <|@rep22) ?_
            refine ⟨hd, ?_, ?_, ?_, ?_, ?_, ?_, 51, s.m.gen 51 0 + 1, .inr rfl, ?_, ?_⟩
            all_goals (try refine fS (aI @h0 <|aI @h1 <|aI @h7 <|aI @h8 <|aI @r7 <|@ho) ?_);all_goals try exact True.intro
            all_goals rfl
          · simp at h; omega
        · have hp : partsN d = [d] := by rw [partsN, if_neg c]
          rw [hp]
          refine cnd (fun h => ?_) (fun h => ?_)
          · simp at h; omega
          · refine gP @Nat.zero_add ?_
            refine ⟨hd, ?_, ?_, ?_, ?_, ?_, ?_, 34, s.m.gen 34 0 + 1, .inl rfl, ?_, ?_⟩
            all_goals (try refine fS (aI @h0 <|aI @h1 <|aI @h7 <|aI @h8 <|aI @r7 <|@ho) ?_);all_goals try exact True.intro
            all_goals rfl
      clear hd ho h0 h1 h7 h8 r7
      rintro s ⟨hd, ho, h0, h1, h8, h7, r7, sl, g', hsl, h9, r9⟩
      have hp60 : ∀ n ∈ partsN d, n < 60 := fun n hn => partsN_lt hd60 hn
      have hp2 := partsN_len d
      generalize partsN d = P at *
      have n7 : ¬ sl = 7 := by omega
      have n84 : ¬ sl = 84 := by omega
      have n11 : ¬ sl = 11 := by omega
      refine gP @Nat.zero_add ?_
      refine W_loopg (fun (x : Nat × List (Nat × Nat)) s => s.dfs = [] ∧ s.m.out.length = 0 ∧ s.t.get 0 = .sl (nats lh) ∧ s.t.get 1 = .sl (nats lb) ∧ s.t.get 8 = vn i ∧
        s.t.get 9 = .rs ⟨0, sl, 0, g'⟩ 3 0 P.length ∧ s.t.get 10 = vn x.1 ∧ s.m.row ⟨0, sl, 0, g'⟩ = some ⟨g', 3, true, false, nats P⟩ ∧ HeldD s.m 0 7 1 54 (s.t.get 7) (plV N x.2) ∧
        x.1 ≤ P.length ∧ x.2.length ≤ 2 * i + x.1 ∧ x.2.all (okP N) = true ∧ x.2 = acc ++ ((P.take x.1).filter (selP lh.length)).map (fun n => (n, sh))) (fun x => P.length - x.1) (0, acc) ?_ ?_
      · refine ⟨hd, ?_, ?_, ?_, ?_, ?_, ?_, ?_, ⟨g, ty, ?_, ?_, ?_⟩, Nat.zero_le _, hal, hok, by simp⟩
        all_goals (try refine fS (aI @h0 <|aI @h1 <|aI @h7 <|aI @h8 <|aI @h9 <|aI @r7 <|aI @r9 <|aI @ho <|@plV_length) ?_);all_goals try exact True.intro
        all_goals first | rfl | exact hty
      clear hd ho h0 h1 h7 h8 h9 r7 r9 hty
      rintro ⟨j, acc'⟩ s ⟨hd, ho, h0, h1, h8, h9, h10, r9, ⟨g2, ty2, h7, r7, hty⟩, hj, hal', hok', hacc⟩
      dsimp only at h10 h7 r7 hty hj hal' hok' hacc
      rw [plV_length] at h7 hty
      refine gP (aI @h9 <|@h10) ?_
      refine cnd (fun h => ?_) (fun h => ?_)
      · have hj' : j < P.length := by have := of_decide_eq_true h; omega
        clear h
        obtain ⟨n, hn⟩ : ∃ n, P[j]? = some n := ⟨P[j], by simp⟩
        have hn60 := hp60 n (List.mem_of_getElem? hn)
        have hfs := filter_take_succ (selP lh.length) hn
        have hjj : (j : Int) < (P.length : Int) := by omega
        have hj0 : (0 : Int) ≤ (j : Int) := by omega
        have f1 : V.int .i64 (wr .i64 ((j : Int) + 1)) = vn (j + 1) := by rw [wr_i64 (by omega) (by omega)]; rfl
        by_cases c0 : n = 0
        · have c : ¬ selP lh.length n = true := by unfold selP; simp [c0]
          rw [if_neg c, List.append_nil] at hfs
          have z1 : (((n : Nat) : Int) == 0) = true := by rw [c0]; rfl
          refine gPS (aI @h9 <|aI @h10 <|aI @r9 <|aI @ho <|aI @hn <|aI @nats_get? <|aI @nats_length <|aI @hjj <|aI @hj0 <|@z1) ?_
          refine cnd (fun h => ?_) (fun h => ?_)
          · refine gP (aI @h10 <|@f1) ?_
            refine ⟨(j + 1, acc'), ⟨hd, ?_, ?_, ?_, ?_, ?_, ?_, ?_, ⟨g2, ty2, ?_, ?_, ?_⟩, hj', by dsimp only; omega, hok', by rw [hfs]; exact hacc⟩, by dsimp only; omega⟩
            all_goals (try refine fS (aI @h0 <|aI @h1 <|aI @h7 <|aI @h8 <|aI @h9 <|aI @r7 <|aI @r9 <|aI @ho <|@plV_length) ?_);all_goals try exact True.intro
            exact hty
          · simp at h
        · have c : selP lh.length n = true := by
            unfold selP
            simp only [Bool.and_eq_true, decide_eq_true_eq]
            omega
          rw [if_pos c] at hfs
          have z1 : (((n : Nat) : Int) == 0) = false := by rw [beq_eq_false_iff_ne]; omega
          have hM : N * n < 60 ^ 17 := by
            calc N * n < 60 ^ 16 * 60 := Nat.mul_lt_mul'' hNb hn60
              _ = 60 ^ 17 := rfl
          have q95 := P95 n (by omega)
          have q84 := Q84 N n hcN (Nat.lt_of_le_of_lt (canL_length_le.2 (by omega : n < 60 ^ 1)) (by decide))
          have q109 := P109 (N * n) (sh : Int) (Nat.lt_of_le_of_lt (canL_length_le.2 hM) (by decide)) (by omega) (by omega)
          clear hM
          by_cases c3 : goodP (N * n) (sh : Int)
          · rw [decide_eq_true c3] at q109
            unfold placeV at q109
            have hok2 : (acc' ++ [(n, sh)]).all (okP N) = true := by
              rw [List.all_append, hok']
              simp only [List.all_cons, List.all_nil, Bool.and_true, Bool.true_and]
              exact decide_eq_true c3
            clear c3
            refine gPS (aI @h9 <|aI @h10 <|aI @r9 <|aI @ho <|aI @hn <|aI @nats_get? <|aI @nats_length <|aI @hjj <|aI @hj0 <|@z1) ?_
            refine cnd (fun h => ?_) (fun h => ?_)
            · simp at h
            rcases hsl with rfl | rfl
            all_goals
              refine gPAS (aI @h0 <|aI @h1 <|aI @h7 <|aI @h8 <|aI @h9 <|aI @h10 <|aI @r7 <|aI @r9 <|aI @ho <|aI @hn <|aI @nats_get? <|aI @nats_length <|aI @hjj <|aI @hj0 <|aI @n7 <|aI @n84 <|aI @n11 <|aI @es <|aI @co85 <|aI @sr85 <|aI @q85.iffx <|aI @co95 <|aI @sr95 <|aI @q95.iffx <|aI @co84 <|aI @sr84 <|aI @q84.iffx <|aI @co109 <|aI @sr109 <|aI @q109.iffx <|aI @rowsOf_aggl <|aI @ptrs_aggl <|@Bool.not_true) ?_
              refine cnd (fun h => ?_) (fun h => ?_)
              · simp at h
              refine gPAS (aI @h7 <|aI @h10 <|aI @r7 <|aI @hty <|aI @ho <|aI @n7 <|aI @n84 <|aI @n11 <|aI @plV_length <|aI @cut_pl <|aI @plV_snoc <|@f1) ?_
              refine ⟨(j + 1, acc' ++ [(n, sh)]), ⟨hd, ?_, ?_, ?_, ?_, ?_, ?_, ?_, ⟨g2 + 1, 54, ?_, ?_, .inl rfl⟩, hj', by simp; omega, hok2, ?_⟩, by dsimp only; omega⟩
              all_goals (try refine fS (aI @h0 <|aI @h1 <|aI @h8 <|aI @h9 <|aI @r9 <|aI @r7 <|aI @ho <|aI @n7 <|aI @n84 <|aI @n11 <|@plV_length) ?_);all_goals try exact True.intro
              rw [hfs, List.map_append, ← List.append_assoc, ← hacc]; rfl
          · rw [decide_eq_false c3] at q109
            have hno : ¬ (byE lh.length lb).all (okP N) = true := by
              rw [List.all_eq_true]
              intro hall
              have hmem : (n, sh) ∈ byE lh.length lb := by
                rw [hby]
                refine List.mem_append_right _ (List.mem_append_left _ (List.mem_map.2 ⟨n, List.mem_filter.2 ⟨List.mem_of_getElem? hn, c⟩, rfl⟩))
              exact c3 (of_decide_eq_true (hall _ hmem))
            rw [if_neg hno]
            unfold placeV at q109
            clear hno c3
            refine gPS (aI @h9 <|aI @h10 <|aI @r9 <|aI @ho <|aI @hn <|aI @nats_get? <|aI @nats_length <|aI @hjj <|aI @hj0 <|@z1) ?_
            refine cnd (fun h => ?_) (fun h => ?_)
            · simp at h
            rcases hsl with rfl | rfl
            all_goals
              refine gPAS (aI @h0 <|aI @h1 <|aI @h7 <|aI @h8 <|aI @h9 <|aI @h10 <|aI @r7 <|aI @r9 <|aI @ho <|aI @hn <|aI @nats_get? <|aI @nats_length <|aI @hjj <|aI @hj0 <|aI @n7 <|aI @n84 <|aI @n11 <|aI @es <|aI @co85 <|aI @sr85 <|aI @q85.iffx <|aI @co95 <|aI @sr95 <|aI @q95.iffx <|aI @co84 <|aI @sr84 <|aI @q84.iffx <|aI @co109 <|aI @sr109 <|aI @q109.iffx <|aI @rowsOf_aggl <|aI @ptrs_aggl <|@Bool.not_false) ?_
              refine cnd (fun h => ?_) (fun h => ?_)
              · refine gP @Nat.zero_add ?_
                refine rPAS hd (aI @Tryd.results52 <|@ho) ?_
                try exact True.intro
                rfl
              · simp at h
      · have hjl : j = P.length := by have := of_decide_eq_false h; omega
        subst hjl
        rw [List.take_length] at hacc
        refine gP (aI @h8 <|@e1) ?_
        refine ⟨(i + 1, acc'), ⟨hd, ?_, ?_, ?_, ?_, ⟨g2, ty2, ?_, ?_, ?_⟩, by omega, by dsimp only; omega, hok', ?_⟩, by dsimp only; omega⟩
        all_goals (try refine fS (aI @h0 <|aI @h1 <|aI @h7 <|aI @r7 <|aI @ho <|@plV_length) ?_);all_goals try exact True.intro
        · exact hty
        · rw [hby, hacc]; simp
    · simp at h
  · have hbe : byE lh.length lb = acc := by
      by_cases hl0 : lh.length = 0
      · rw [hl0] at hby ⊢
        rw [byE_zero, byE_zero, List.append_nil] at hby
        rw [byE_zero]; exact hby
      · have hil : i = lb.length := by omega
        rw [hil, List.drop_length, byE, List.append_nil] at hby
        exact hby
    rw [hbe, if_pos hok]
    by_cases c1 : (i : Int) < (lb.length : Int)
    · have c2 : ¬ (lh.length : Int) > 0 := fun e => c0 ⟨c1, e⟩
      refine gPS (aI @h0 <|aI @h1 <|aI @h8 <|aI @ho <|aI @nats_length <|aI @c1 <|@c2) ?_
      refine cnd (fun h => ?_) (fun h => ?_)
      · simp at h
      refine gPS (aI @h7 <|aI @r7 <|@ho) ?_
      refine rPAS hd (aI @Tryd.results52 <|aI @h7 <|aI @r7 <|aI @ho <|aI @plV_length <|@cut_pl) ?_
      try exact True.intro
    · refine gPS (aI @h0 <|aI @h1 <|aI @h8 <|aI @ho <|aI @nats_length <|@c1) ?_
      refine cnd (fun h => ?_) (fun h => ?_)
      · simp at h
      refine gPS (aI @h7 <|aI @r7 <|@ho) ?_
      refine rPAS hd (aI @Tryd.results52 <|aI @h7 <|aI @r7 <|aI @ho <|aI @plV_length <|@cut_pl) ?_
      try exact True.intro
end Go.Proofs.YtpocekfifokndaaDoor
