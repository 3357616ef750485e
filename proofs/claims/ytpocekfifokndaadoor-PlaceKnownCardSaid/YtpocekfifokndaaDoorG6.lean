/- Part 6 of the proof: an evaluator of the program, proved sound against the model, and what the functions of the program compute. No condition but those each theorem states. -/
import Derived.Test.YtpocekfifokndaaDoorG2
import Derived.Test.YtpocekfifokndaaDoorG3
import Derived.Test.YtpocekfifokndaaDoorG1
set_option linter.unusedSimpArgs false
set_option linter.unusedVariables false
namespace Go.Proofs.YtpocekfifokndaaDoor
open Go Go.Ev Go.Pl
set_option maxRecDepth 100000
set_option maxHeartbeats 4000000
theorem D137n (own oM : Go.Ev.Rows) : ∃ k, evD X k 137 [.ptr ⟨1, 4, 0, 1⟩ 0 0, .ptr ⟨1, 5, 0, 1⟩ 0 0] [own, oM] none = some [own, oM] := by
  refine evD_of (X := X) (fn := Tryd.f137) Tryd.func137 rfl rfl ⟨by decide +kernel, Nat.le_of_ble_eq_true rfl, rfl, co137⟩ rfl ?_
  have hm : (enter [V.ptr ⟨1, 4, 0, 1⟩ 0 0, V.ptr ⟨1, 5, 0, 1⟩ 0 0] [own, oM]).m = ⟨.nil, [own, oM]⟩ := rfl
  have hd : (enter [V.ptr ⟨1, 4, 0, 1⟩ 0 0, V.ptr ⟨1, 5, 0, 1⟩ 0 0] [own, oM]).dfs = [] := rfl
  generalize enter [V.ptr ⟨1, 4, 0, 1⟩ 0 0, V.ptr ⟨1, 5, 0, 1⟩ 0 0] [own, oM] = s at *
  refine WL_k ?_
  intro K hK
  simp (maxSteps := 2000000) (disch := omega) only [SA, ofValue, ofCell, bin, intBin, un, idx, Go.Ev.builtin, calleeOf, V.isNilS, V.depthOk, depth1, V.ok1, V.isAgg, V.cells, isConst, Nat.reduceBEq, Nat.reduceEqDiff, ↓reduceIte, Nat.reduceLeDiff, Nat.reduceAdd, Nat.reduceMul, Nat.reduceSub, Nat.reduceLT, Int.reduceAdd, Int.reduceSub, Int.reduceMul, Int.reduceLT, Int.reduceLE, Int.reduceToNat, Int.reduceNeg, reduceIte, reduceCtorEq, SPx, hm]
  refine hK _ _ ⟨rfl, ?_⟩
  clear hK K
  repeat (first
    | with_reducible first | refine W_seq ?_ | refine W_skip ?_ | refine W_label ?_ | refine W_ret ?_ | refine W_exit ?_ | refine W_block ?_ | refine thenI ?_ | refine thenRet ?_ | refine thenExit ?_ | refine blockRet ?_ | refine blockI ?_ | refine blockExit ?_ | refine blockExitNe rfl ?_
    | (with_reducible refine W_region_k ?_
       intro K hK
       simp (maxSteps := 2000000) (disch := omega) only [SA, ofValue, ofCell, bin, intBin, un, idx, Go.Ev.builtin, calleeOf, V.isNilS, V.depthOk, depth1, V.ok1, V.isAgg, V.cells, isConst, Nat.reduceBEq, Nat.reduceEqDiff, ↓reduceIte, Nat.reduceLeDiff, Nat.reduceAdd, Nat.reduceMul, Nat.reduceSub, Nat.reduceLT, Int.reduceAdd, Int.reduceSub, Int.reduceMul, Int.reduceLT, Int.reduceLE, Int.reduceToNat, Int.reduceNeg, reduceIte, reduceCtorEq, SPx, bin, eqOk, eqT, isConst, Bool.or_true, Option.map_some]
       refine hK _ _ ?_
       clear hK K)
  )
  refine cnd (fun h => ?_) (fun h => ?_)
  · simp at h
  · refine gP @Nat.zero_add ?_
    exact ⟨.inl rfl, by simp [hd], rfl⟩
theorem D137p (own oM : Go.Ev.Rows) (k : Int) (x4 x5 : V) (h4 : (⟨own, [oM]⟩ : Mem).row ⟨1, 4, 0, 1⟩ = some ⟨1, 45, false, false, [x4]⟩) (h5 : (⟨own, [oM]⟩ : Mem).row ⟨1, 5, 0, 1⟩ = some ⟨1, 23, false, false, [x5]⟩) :
    ∃ j, evD X j 137 [.ptr ⟨1, 4, 0, 1⟩ 0 0, .ptr ⟨1, 5, 0, 1⟩ 0 0] [own, oM] (some (.ifc 23 (vi k))) =
      some [((own.upd 4 500 ⟨(own.get 4 500).g + 1, 0, true, false, []⟩).upd 4 0 ⟨1, 45, false, false, [.rs ⟨1, 4, 500, (own.get 4 500).g + 1⟩ 0 0 0]⟩).upd 5 0 ⟨1, 23, false, false, [vi k]⟩, oM] := by
  refine evD_of (X := X) (fn := Tryd.f137) Tryd.func137 rfl rfl ⟨by decide +kernel, Nat.le_of_ble_eq_true rfl, rfl, co137⟩ rfl ?_
  have hm : (enter [V.ptr ⟨1, 4, 0, 1⟩ 0 0, V.ptr ⟨1, 5, 0, 1⟩ 0 0] [own, oM]).m = ⟨.nil, [own, oM]⟩ := rfl
  have hd : (enter [V.ptr ⟨1, 4, 0, 1⟩ 0 0, V.ptr ⟨1, 5, 0, 1⟩ 0 0] [own, oM]).dfs = [] := rfl
  have t0 : (enter [V.ptr ⟨1, 4, 0, 1⟩ 0 0, V.ptr ⟨1, 5, 0, 1⟩ 0 0] [own, oM]).t.get 0 = .ptr ⟨1, 4, 0, 1⟩ 0 0 := rfl
  have t1 : (enter [V.ptr ⟨1, 4, 0, 1⟩ 0 0, V.ptr ⟨1, 5, 0, 1⟩ 0 0] [own, oM]).t.get 1 = .ptr ⟨1, 5, 0, 1⟩ 0 0 := rfl
  generalize enter [V.ptr ⟨1, 4, 0, 1⟩ 0 0, V.ptr ⟨1, 5, 0, 1⟩ 0 0] [own, oM] = s at *
  have h4' : (⟨.nil, [own, oM]⟩ : Mem).row ⟨1, 4, 0, 1⟩ = some ⟨1, 45, false, false, [x4]⟩ := by rw [row_outer _ _ _ _ (by simp), h4]
  have h5' : (⟨.nil, [own, oM]⟩ : Mem).row ⟨1, 5, 0, 1⟩ = some ⟨1, 23, false, false, [x5]⟩ := by rw [row_outer _ _ _ _ (by simp), h5]
  refine WL_k ?_
  intro K hK
  simp (maxSteps := 2000000) (disch := omega) only [SA, ofValue, ofCell, bin, intBin, un, idx, Go.Ev.builtin, calleeOf, V.isNilS, V.depthOk, depth1, V.ok1, V.isAgg, V.cells, isConst, Nat.reduceBEq, Nat.reduceEqDiff, ↓reduceIte, Nat.reduceLeDiff, Nat.reduceAdd, Nat.reduceMul, Nat.reduceSub, Nat.reduceLT, Int.reduceAdd, Int.reduceSub, Int.reduceMul, Int.reduceLT, Int.reduceLE, Int.reduceToNat, Int.reduceNeg, reduceIte, reduceCtorEq, SPx, hm]
  refine hK _ _ ⟨rfl, ?_⟩
  clear hK K
  repeat (first
    | with_reducible first | refine W_seq ?_ | refine W_skip ?_ | refine W_label ?_ | refine W_ret ?_ | refine W_exit ?_ | refine W_block ?_ | refine thenI ?_ | refine thenRet ?_ | refine thenExit ?_ | refine blockRet ?_ | refine blockI ?_ | refine blockExit ?_ | refine blockExitNe rfl ?_
    | (with_reducible refine W_region_k ?_
       intro K hK
       simp (maxSteps := 2000000) (disch := omega) only [SA, ofValue, ofCell, bin, intBin, un, idx, Go.Ev.builtin, calleeOf, V.isNilS, V.depthOk, depth1, V.ok1, V.isAgg, V.cells, isConst, Nat.reduceBEq, Nat.reduceEqDiff, ↓reduceIte, Nat.reduceLeDiff, Nat.reduceAdd, Nat.reduceMul, Nat.reduceSub, Nat.reduceLT, Int.reduceAdd, Int.reduceSub, Int.reduceMul, Int.reduceLT, Int.reduceLE, Int.reduceToNat, Int.reduceNeg, reduceIte, reduceCtorEq, SPx, bin, eqOk, eqT, isConst, Bool.or_true, Option.map_some]
       refine hK _ _ ?_
       clear hK K)
  )
  refine cnd (fun h => ?_) (fun h => ?_)
  · refine gPAS (aI @t0 <|aI @t1 <|aI @h4' <|aI @h5' <|aI @co133 <|aI @sr133 <|aI ((P133 k).iffx) <|aI @Mem.rows_new <|@Mem.rows_lit) ?_
    refine ⟨.inl rfl, by simp [hd], ?_⟩
    simp [Mem.new, Mem.set, outSet]
  · simp at h
theorem fin99 {oM : Go.Ev.Rows} {s : St} {es : List V} {k : Int} (hd : s.dfs = [(137, [.ptr ⟨1, 4, 0, 1⟩ 0 0, .ptr ⟨1, 5, 0, 1⟩ 0 0])]) (ho : s.m.out = [oM]) (h4 : s.t.get 4 = .ptr ⟨1, 4, 0, 1⟩ 0 0) (h5 : s.t.get 5 = .ptr ⟨1, 5, 0, 1⟩ 0 0)
    (r4 : s.m.row ⟨1, 4, 0, 1⟩ = some ⟨1, 45, false, false, [.sl es]⟩) (r5 : s.m.row ⟨1, 5, 0, 1⟩ = some ⟨1, 23, false, false, [vi k]⟩) :
    finQ X Tryd.f99 (.ret (.tup [.sl es, vi k]), [oM]) .ret s := by
  obtain ⟨t, ⟨own, out⟩, dfs⟩ := s
  dsimp only at hd ho h4 h5 r4 r5
  subst ho
  refine fin_ret1 (own := own) (vs := [.sl es, vi k]) hd (D137n own oM) ?_ rfl rfl
  simp (maxSteps := 2000000) (disch := omega) only [SA, ofValue, ofCell, bin, intBin, un, idx, Go.Ev.builtin, calleeOf, V.isNilS, V.depthOk, depth1, V.ok1, V.isAgg, V.cells, isConst, Nat.reduceBEq, Nat.reduceEqDiff, ↓reduceIte, Nat.reduceLeDiff, Nat.reduceAdd, Nat.reduceMul, Nat.reduceSub, Nat.reduceLT, Int.reduceAdd, Int.reduceSub, Int.reduceMul, Int.reduceLT, Int.reduceLE, Int.reduceToNat, Int.reduceNeg, reduceIte, reduceCtorEq, SPx, Tryd.results99, resVars, resVar, h4, h5, r4, r5]
theorem fin99p {oM : Go.Ev.Rows} {s : St} {x4 x5 : V} {k : Int} (hd : s.dfs = [(137, [.ptr ⟨1, 4, 0, 1⟩ 0 0, .ptr ⟨1, 5, 0, 1⟩ 0 0])]) (ho : s.m.out = [oM]) (h4 : s.t.get 4 = .ptr ⟨1, 4, 0, 1⟩ 0 0) (h5 : s.t.get 5 = .ptr ⟨1, 5, 0, 1⟩ 0 0)
    (r4 : s.m.row ⟨1, 4, 0, 1⟩ = some ⟨1, 45, false, false, [x4]⟩) (r5 : s.m.row ⟨1, 5, 0, 1⟩ = some ⟨1, 23, false, false, [x5]⟩) :
    finQ X Tryd.f99 (.ret (.tup [.sl [], vi k]), [oM]) (.panic (.ifc 23 (vi k))) s := by
  obtain ⟨t, ⟨own, out⟩, dfs⟩ := s
  dsimp only at hd ho h4 h5 r4 r5
  subst ho
  refine fin_panic1 (vs := [.rs ⟨1, 4, 500, (own.get 4 500).g + 1⟩ 0 0 0, vi k]) hd (D137p own oM k x4 x5 r4 r5) ?_ ?_ ?_
  · rw [← set_own _ [oM] 1 5 0 _ rfl, ← set_own _ [oM] 1 4 0 _ rfl, ← set_own _ [oM] 1 4 500 _ rfl]
    simp (maxSteps := 2000000) (disch := omega) only [SA, ofValue, ofCell, bin, intBin, un, idx, Go.Ev.builtin, calleeOf, V.isNilS, V.depthOk, depth1, V.ok1, V.isAgg, V.cells, isConst, Nat.reduceBEq, Nat.reduceEqDiff, ↓reduceIte, Nat.reduceLeDiff, Nat.reduceAdd, Nat.reduceMul, Nat.reduceSub, Nat.reduceLT, Int.reduceAdd, Int.reduceSub, Int.reduceMul, Int.reduceLT, Int.reduceLE, Int.reduceToNat, Int.reduceNeg, reduceIte, reduceCtorEq, SPx, Tryd.results99, resVars, resVar, h4, h5, r4, r5]
  · rw [← set_own _ [oM] 1 5 0 _ rfl, ← set_own _ [oM] 1 4 0 _ rfl, ← set_own _ [oM] 1 4 500 _ rfl]
    simp (maxSteps := 2000000) (disch := omega) only [SA, ofValue, ofCell, bin, intBin, un, idx, Go.Ev.builtin, calleeOf, V.isNilS, V.depthOk, depth1, V.ok1, V.isAgg, V.cells, isConst, Nat.reduceBEq, Nat.reduceEqDiff, ↓reduceIte, Nat.reduceLeDiff, Nat.reduceAdd, Nat.reduceMul, Nat.reduceSub, Nat.reduceLT, Int.reduceAdd, Int.reduceSub, Int.reduceMul, Int.reduceLT, Int.reduceLE, Int.reduceToNat, Int.reduceNeg, reduceIte, reduceCtorEq, SPx, SAx, resOf, X_own, mv_tup, mv2s_cons, mv2s_nil, mv2_int, cut, List.take_zero, List.drop_zero]
  · exact frzR_own (fun r ty off len hm => by
      simp [resOf, leaves, leaves2] at hm
      rw [hm.1]; rfl)
theorem M99 (g : FuncId) (cap : List V) (oM : Go.Ev.Rows) (r : Res) (hcap : cap.any V.loose = true) (hco : callOk Tryd.prog g = true) (hsr : scalarRes Tryd.prog g = false) (hg : ∀ own, AnsAt X g cap [own, oM] r)
    (R : Res) (hR : (∃ es, r = .ret (.sl es) ∧ R = .ret (.tup [.sl es, vi 0])) ∨ (∃ k, r = .panic (.ifc 23 (vi k)) ∧ R = .ret (.tup [.sl [], vi k]))) :
    AnsAt X 99 [vi 0, .fn g [] cap] [oM] R := by
  have hne : cap.isEmpty = false := by cases cap with | nil => simp at hcap | cons _ _ => rfl
  refine ⟨rfl, by simp [V.refs, V.loose, hne], fun v hv => ?_, ?_⟩
  · rcases hR with ⟨es, _, rfl⟩ | ⟨k, _, rfl⟩
    · injection hv with hv; subst hv; rfl
    · injection hv with hv; subst hv; rfl
  refine runsAt_of (X := X) (fn := Tryd.f99) Tryd.func99 rfl ⟨by decide +kernel, Nat.le_of_ble_eq_true rfl⟩ ?_
  have hd : (enter [vi 0, V.fn g [] cap] [oM]).dfs = [] := rfl
  have h0 : (enter [vi 0, V.fn g [] cap] [oM]).t.get 0 = vi 0 := rfl
  have h1 : (enter [vi 0, V.fn g [] cap] [oM]).t.get 1 = .fn g [] cap := rfl
  have hm : (enter [vi 0, V.fn g [] cap] [oM]).m = ⟨.nil, [oM]⟩ := rfl
  generalize enter [vi 0, V.fn g [] cap] [oM] = s at *
  refine gPA (aI @h0 <|aI @h1 <|@hm) ?_
  refine cnd (fun h => ?_) (fun h => ?_)
  · simp at h
  refine gPA (aI @h0 <|aI @h1 <|@hm) ?_
  have key : ∀ (m : Mem) (dst : Nat) (K KP : V → Mem → Prop), m.out = [oM] → CallQ X g cap m dst K KP = (match r with | .ret v => K v m | .panic v => KP v m) := by
    intro m dst K KP hmo
    have hh := hg m.own
    rw [← hmo] at hh
    cases r with
    | ret v => exact propext hh.iff
    | panic v => exact propext hh.panics
  with_reducible refine W_region_k ?_
  intro K hK
  simp (maxSteps := 2000000) (disch := omega) only [SA, ofValue, ofCell, bin, intBin, un, idx, Go.Ev.builtin, calleeOf, V.isNilS, V.depthOk, depth1, V.ok1, V.isAgg, V.cells, isConst, Nat.reduceBEq, Nat.reduceEqDiff, ↓reduceIte, Nat.reduceLeDiff, Nat.reduceAdd, Nat.reduceMul, Nat.reduceSub, Nat.reduceLT, Int.reduceAdd, Int.reduceSub, Int.reduceMul, Int.reduceLT, Int.reduceLE, Int.reduceToNat, Int.reduceNeg, reduceIte, reduceCtorEq, SPx, SAx, h0, h1, hm, hd, hco, hsr]
  rw [key _ _ _ _ rfl]
  rcases hR with ⟨es, rfl, rfl⟩ | ⟨k, rfl, rfl⟩
  · simp (maxSteps := 2000000) (disch := omega) only [SA, ofValue, ofCell, bin, intBin, un, idx, Go.Ev.builtin, calleeOf, V.isNilS, V.depthOk, depth1, V.ok1, V.isAgg, V.cells, isConst, Nat.reduceBEq, Nat.reduceEqDiff, ↓reduceIte, Nat.reduceLeDiff, Nat.reduceAdd, Nat.reduceMul, Nat.reduceSub, Nat.reduceLT, Int.reduceAdd, Int.reduceSub, Int.reduceMul, Int.reduceLT, Int.reduceLE, Int.reduceToNat, Int.reduceNeg, reduceIte, reduceCtorEq, SPx, SAx, SSx, appendTo, elemsOf]
    refine hK _ _ ?_
    clear hK K
    refine gP @Nat.zero_add ?_
    refine fin99 (es := es) (k := 0) ?_ ?_ ?_ ?_ ?_ ?_
    all_goals (try refine f0 @hd ?_);all_goals try exact True.intro
    all_goals first | rfl | simp [Mem.new, Mem.set]
  · simp (maxSteps := 2000000) (disch := omega) only [SA, ofValue, ofCell, bin, intBin, un, idx, Go.Ev.builtin, calleeOf, V.isNilS, V.depthOk, depth1, V.ok1, V.isAgg, V.cells, isConst, Nat.reduceBEq, Nat.reduceEqDiff, ↓reduceIte, Nat.reduceLeDiff, Nat.reduceAdd, Nat.reduceMul, Nat.reduceSub, Nat.reduceLT, Int.reduceAdd, Int.reduceSub, Int.reduceMul, Int.reduceLT, Int.reduceLE, Int.reduceToNat, Int.reduceNeg, reduceIte, reduceCtorEq, SPx, SAx, SSx, appendTo, elemsOf]
    refine hK _ _ ?_
    clear hK K
    refine gP @Nat.zero_add ?_
    refine fin99p (k := k) (x4 := .rs ⟨1, 4, 1, 1⟩ 0 0 0) (x5 := vi 0) ?_ ?_ ?_ ?_ ?_ ?_
    all_goals (try refine f0 @hd ?_);all_goals try exact True.intro
    all_goals first | rfl | simp [Mem.new, Mem.set]
theorem M99e (e : Int) (he : e ≠ 0) (g : FuncId) (cap : List V) (oM : Go.Ev.Rows) (hcap : cap.any V.loose = true) : AnsAt X 99 [vi e, .fn g [] cap] [oM] (.ret (.tup [.sl [], vi e])) := by
  have hne : cap.isEmpty = false := by cases cap with | nil => simp at hcap | cons _ _ => rfl
  refine ⟨rfl, by simp [V.refs, V.loose, hne], fun v hv => ?_, ?_⟩
  · injection hv with hv; subst hv; rfl
  refine runsAt_of (X := X) (fn := Tryd.f99) Tryd.func99 rfl ⟨by decide +kernel, Nat.le_of_ble_eq_true rfl⟩ ?_
  have hd : (enter [vi e, V.fn g [] cap] [oM]).dfs = [] := rfl
  have h0 : (enter [vi e, V.fn g [] cap] [oM]).t.get 0 = vi e := rfl
  have h1 : (enter [vi e, V.fn g [] cap] [oM]).t.get 1 = .fn g [] cap := rfl
  have hm : (enter [vi e, V.fn g [] cap] [oM]).m = ⟨.nil, [oM]⟩ := rfl
  generalize enter [vi e, V.fn g [] cap] [oM] = s at *
  refine gPA (aI @h0 <|aI @h1 <|@hm) ?_
  refine cnd (fun h => ?_) (fun h => ?_)
  · refine gPA (aI @h0 <|aI @h1 <|@hm) ?_
    refine fin_ret (X := X) (fn := Tryd.f99) (vs := [.rs ⟨1, 4, 1, 1⟩ 0 0 0, vi e]) hd ?_ ?_ ?_
    · simp (maxSteps := 2000000) (disch := omega) only [SA, ofValue, ofCell, bin, intBin, un, idx, Go.Ev.builtin, calleeOf, V.isNilS, V.depthOk, depth1, V.ok1, V.isAgg, V.cells, isConst, Nat.reduceBEq, Nat.reduceEqDiff, ↓reduceIte, Nat.reduceLeDiff, Nat.reduceAdd, Nat.reduceMul, Nat.reduceSub, Nat.reduceLT, Int.reduceAdd, Int.reduceSub, Int.reduceMul, Int.reduceLT, Int.reduceLE, Int.reduceToNat, Int.reduceNeg, reduceIte, reduceCtorEq, SPx, SAx, Tryd.results99, resVars, resVar]
    · simp (maxSteps := 2000000) (disch := omega) only [SA, ofValue, ofCell, bin, intBin, un, idx, Go.Ev.builtin, calleeOf, V.isNilS, V.depthOk, depth1, V.ok1, V.isAgg, V.cells, isConst, Nat.reduceBEq, Nat.reduceEqDiff, ↓reduceIte, Nat.reduceLeDiff, Nat.reduceAdd, Nat.reduceMul, Nat.reduceSub, Nat.reduceLT, Int.reduceAdd, Int.reduceSub, Int.reduceMul, Int.reduceLT, Int.reduceLE, Int.reduceToNat, Int.reduceNeg, reduceIte, reduceCtorEq, SPx, SAx, resOf, X_own, mv_tup, mv2s_cons, mv2s_nil, mv2_int, cut, List.take_zero, List.drop_zero]
    · refine (frzR_own (fun r ty off len hm => ?_)).trans ?_
      · simp [resOf, leaves, leaves2] at hm
        rw [hm.1]; rfl
      · rfl
  · exact absurd (by simpa using h) he
end Go.Proofs.YtpocekfifokndaaDoor
namespace Go.Proofs.YtpocekfifokndaaDoor
open Go Go.Ev Go.Pl
set_option maxRecDepth 100000
set_option maxHeartbeats 4000000
def HeldD (m : Mem) (d s i : Nat) (T : TypeId) (v : V) (L : List V) : Prop := ∃ g ty, v = .rs ⟨d, s, i, g⟩ ty 0 L.length ∧ m.row ⟨d, s, i, g⟩ = some ⟨g, ty, true, false, L⟩ ∧ (ty = T ∨ ty = 0 ∧ L.length = 0)
def stepL (w f : Nat) : List Nat :=
  if h : 1 < f ∧ 0 < w then
    if hw : (regS (zi (digB f))).2.2.2 = 0 ∧ w % f = 0 then f :: stepL (w / f) f else stepL w (f - 1)
  else []
termination_by w + f
decreasing_by
  · have := Nat.div_lt_self h.2 h.1; omega
  · omega
theorem stepL_yes {w f : Nat} (hf : 1 < f) (hw : 0 < w) (h : (regS (zi (digB f))).2.2.2 = 0 ∧ w % f = 0) : stepL w f = f :: stepL (w / f) f := by rw [stepL, dif_pos ⟨hf, hw⟩, dif_pos h]
theorem stepL_no {w f : Nat} (hf : 1 < f) (hw : 0 < w) (h : ¬ ((regS (zi (digB f))).2.2.2 = 0 ∧ w % f = 0)) : stepL w f = stepL w (f - 1) := by rw [stepL, dif_pos ⟨hf, hw⟩, dif_neg h]
theorem stepL_end {w f : Nat} (hf : ¬ 1 < f) : stepL w f = [] := by rw [stepL, dif_neg (fun e => hf e.1)]
def pairV (f : Nat) : V := .agg [.sl (nats (digB f)), .sl (nats (recS (zi (digB f))).1)]
def pairsV (l : List Nat) : List V := l.map pairV
theorem pairsV_length (l : List Nat) : (pairsV l).length = l.length := by simp [pairsV]
theorem pairsV_snoc (l : List Nat) (f : Nat) : pairsV l ++ [.agg [.sl (nats (digB f)), .sl (nats (recS (zi (digB f))).1)]] = pairsV (l ++ [f]) := by simp [pairsV, pairV]
theorem cut_pairs (l : List Nat) : cut (pairsV l) 0 l.length = pairsV l := by unfold cut; rw [List.drop_zero, List.take_of_length_le (by rw [pairsV_length]; exact Nat.le_refl _)]
theorem P100 (l : List Nat) (hl : ∀ d ∈ l, d < 60) (hlen : l.length ≤ 16) (N : Nat) (hNe : numL l.reverse = N) (hN : 0 < N) (o1 oM : Go.Ev.Rows)
    (hA : (⟨oM, []⟩ : Mem).row ⟨0, 1, 0, 1⟩ = some ⟨1, 22, false, false, [.sl (nats l)]⟩) :
    AnsAt X 100 [.ptr ⟨0, 1, 0, 1⟩ 0 0] [o1, oM] (.ret (.sl (pairsV (stepL N 81)))) := by
  refine ⟨rfl, rfl, fun v hv => ?_, ?_⟩
  · injection hv with hv; subst hv; rfl
  refine runsAt_of (X := X) (fn := Tryd.f100) Tryd.func100 rfl ⟨by decide +kernel, Nat.le_of_ble_eq_true rfl⟩ ?_
  have hd : (enter [V.ptr ⟨0, 1, 0, 1⟩ 0 0] [o1, oM]).dfs = [] := rfl
  have h0 : (enter [V.ptr ⟨0, 1, 0, 1⟩ 0 0] [o1, oM]).t.get 0 = .ptr ⟨0, 1, 0, 1⟩ 0 0 := rfl
  have hm : (enter [V.ptr ⟨0, 1, 0, 1⟩ 0 0] [o1, oM]).m = ⟨.nil, [o1, oM]⟩ := rfl
  generalize enter [V.ptr ⟨0, 1, 0, 1⟩ 0 0] [o1, oM] = s at *
  have hA' : (⟨.nil, [o1, oM]⟩ : Mem).row ⟨0, 1, 0, 1⟩ = some ⟨1, 22, false, false, [.sl (nats l)]⟩ := by rw [row_outer _ _ _ _ (by simp), row_outer _ _ _ _ (by simp), hA]
  have hNb : N < 60 ^ 16 := by
    have := Go.Pl.num_lt (l := l.reverse) (fun d hd => hl d (List.mem_reverse.1 hd))
    rw [List.length_reverse, hNe] at this
    exact lt_pow_mono this hlen
  have q1 := P86 l 0 72 rfl hl (by omega)
  rw [hNe] at q1
  refine gPAW (aI @h0 <|aI @hm <|aI @hA' <|aI @co86 <|aI @sr86 <|@q1.iffx) ?_
  refine W_loopg (fun (x : Nat × Nat × List Nat) s => s.dfs = [] ∧ s.m.out = [o1, oM] ∧ s.t.get 3 = .ptr ⟨2, 3, 0, 1⟩ 0 0 ∧ s.t.get 4 = vn x.2.1 ∧ HeldD s.m 2 2 1 69 (s.t.get 2) (pairsV x.2.2) ∧
    s.m.row ⟨2, 3, 0, 1⟩ = some ⟨1, 100, false, false, [wv (x.1 * 60 ^ 72)]⟩ ∧ 0 < x.1 ∧ x.1 * 2 ^ x.2.2.length ≤ N ∧ x.2.1 ≤ 81 ∧ 0 < x.2.1 ∧ stepL N 81 = x.2.2 ++ stepL x.1 x.2.1) (fun x => x.1 + x.2.1) (N, 81, []) ?_ ?_
  · refine ⟨hd, ?_, ?_, ?_, ⟨1, 0, ?_, ?_, .inr ⟨rfl, rfl⟩⟩, ?_, hN, by simp, Nat.le_refl _, Nat.zero_lt_succ _, rfl⟩
    all_goals (try refine fW @hm ?_);all_goals try exact True.intro
    all_goals rfl
  clear hd h0 hm hA' q1 hA
  rintro ⟨w, f, acc⟩ s ⟨hd, ho, h3, h4, ⟨g, ty, h2, r2, hty⟩, r3, hw, hwN, hf81, hf0, hst⟩
  dsimp only at h4 h2 r2 hty r3 hw hwN hf81 hf0 hst
  rw [pairsV_length] at h2 hty
  refine gP @h4 ?_
  refine cnd (fun h => ?_) (fun h => ?_)
  · have h := of_decide_eq_true h
    have hf1 : 1 < f := by omega
    clear h
    have hwle : w ≤ N := Nat.le_trans (Nat.le_mul_of_pos_right _ (Nat.pow_pos (by decide))) hwN
    have q1 := Q101 w f (Nat.lt_of_le_of_lt hwle (Nat.lt_trans hNb (by decide))) (by omega) (by omega)
    have q2 := P88 f (by omega)
    have q3 := P81 (f * 60 ^ 72) (by
      calc f * 60 ^ 72 < 60 ^ 16 * 60 ^ 72 := Nat.mul_lt_mul_of_pos_right (by omega) (by decide)
        _ ≤ 60 ^ 168 := by decide)
    rw [placeRes_whole (by omega)] at q3
    have q4 := P31 (zi (digB f))
    rw [← nats_zi] at q4
    have hrw : (regS (zi (digB f))).2.2.2 = (regS (zi (digB f))).2.2.2 := rfl
    generalize hre : (regS (zi (digB f))).2.2.2 = e at q4 hrw
    by_cases c : e = 0 ∧ w % f = 0
    · obtain ⟨c1, c2⟩ := c
      have e1 : (e != 0) = false := by rw [c1]; rfl
      have e2 : (((w % f : Nat) : Int) != 0) = false := by rw [c2]; rfl
      have q5 := P32 (zi (digB f))
      rw [← nats_zi] at q5
      have hdiv : 0 < w / f := Nat.div_pos (Nat.le_of_dvd hw (Nat.dvd_of_mod_eq_zero c2)) (by omega)
      have hpow : w / f * 2 ^ (acc ++ [f]).length ≤ N := by
        have h1 : w / f * 2 ≤ w := Nat.le_trans (Nat.mul_le_mul_left _ hf1) (Nat.div_mul_le_self w f)
        have h2 := Nat.mul_le_mul_right (2 ^ acc.length) h1
        rw [List.length_append, List.length_singleton, Nat.pow_succ, Nat.mul_comm (2 ^ _) 2, ← Nat.mul_assoc]
        omega
      have hcnt : acc.length < 100 := by
        have h1 : 2 ^ acc.length ≤ N := Nat.le_trans (Nat.le_mul_of_pos_left _ hw) hwN
        exact Nat.lt_of_lt_of_le ((Nat.pow_lt_pow_iff_right (a := 2) (by decide)).1 (Nat.lt_of_le_of_lt h1 (Nat.lt_trans hNb (by decide : (60 : Nat) ^ 16 < 2 ^ 100)))) (Nat.le_refl _)
      rw [stepL_yes hf1 hw ⟨by rw [hre]; exact c1, c2⟩] at hst
      have hlt : w / f + f < w + f := by have := Nat.div_lt_self hw hf1; omega
      clear hre hrw hwN hwle hNb hNe hl
      refine gPASW (aI @h2 <|aI @h3 <|aI @h4 <|aI @ho <|aI @r2 <|aI @r3 <|aI @hty <|aI @co101 <|aI @sr101 <|aI @co88 <|aI @sr88 <|aI @co81 <|aI @sr81 <|aI @co31 <|aI @sr31 <|aI @co32 <|aI @sr32 <|aI @q1.iffx <|aI @q2.iffx <|aI @q3.iffx <|aI @q4.iffx <|aI @q5.iffx <|aI @e1 <|aI @e2 <|aI @pairsV_length <|aI @cut_pairs <|@pairsV_snoc) ?_
      refine cnd (fun h => ?_) (fun h => ?_)
      · simp at h
      refine gPASW (aI @h2 <|aI @h3 <|aI @h4 <|aI @ho <|aI @r2 <|aI @r3 <|aI @hty <|aI @co32 <|aI @sr32 <|aI @q5.iffx <|aI @pairsV_length <|aI @cut_pairs <|@pairsV_snoc) ?_
      refine ⟨(w / f, f, acc ++ [f]), ⟨hd, ?_, ?_, ?_, ⟨g + 1, 69, ?_, ?_, .inl rfl⟩, ?_, hdiv, hpow, hf81, hf0, ?_⟩, hlt⟩
      all_goals (try refine fSW (aI @h2 <|aI @h3 <|aI @h4 <|aI @r2 <|aI @r3 <|aI @ho <|@pairsV_length) ?_);all_goals try exact True.intro
      · simp [Mem.new, Mem.set, ho]
      · rw [hst]; simp
    · rw [stepL_no hf1 hw (by rw [hre]; exact c)] at hst
      have hlt : w + (f - 1) < w + f := by omega
      have hm1 : f - 1 ≤ 81 ∧ 0 < f - 1 := by omega
      have e4 : V.int .i64 (wr .i64 ((f : Int) - 1)) = vn (f - 1) := by rw [wr_i64 (by omega) (by omega)]; congr 1; omega
      by_cases he : e = 0
      · have e1 : (e != 0) = false := by rw [he]; rfl
        have e2 : (((w % f : Nat) : Int) != 0) = true := by
          have h2 : w % f ≠ 0 := fun x => c ⟨he, x⟩
          rw [bne_iff_ne]; omega
        clear hre hrw hwle hNb hNe hl c
        refine gPASW (aI @h2 <|aI @h3 <|aI @h4 <|aI @ho <|aI @r2 <|aI @r3 <|aI @hty <|aI @co101 <|aI @sr101 <|aI @co88 <|aI @sr88 <|aI @co81 <|aI @sr81 <|aI @co31 <|aI @sr31 <|aI @q1.iffx <|aI @q2.iffx <|aI @q3.iffx <|aI @q4.iffx <|aI @e1 <|@e2) ?_
        refine cnd (fun h => ?_) (fun h => ?_)
        · refine gPASW (aI @h2 <|aI @h3 <|aI @h4 <|aI @ho <|aI @r2 <|aI @r3 <|@e4) ?_
          refine ⟨(w, f - 1, acc), ⟨hd, ?_, ?_, ?_, ⟨g, ty, ?_, ?_, by rw [pairsV_length]; exact hty⟩, ?_, hw, hwN, hm1.1, hm1.2, hst⟩, hlt⟩
          all_goals (try refine fSW (aI @h2 <|aI @h3 <|aI @h4 <|aI @r2 <|aI @r3 <|aI @ho <|@pairsV_length) ?_);all_goals try exact True.intro
          simp [Mem.new, Mem.set, ho]
        · simp at h
      · have e1 : (e != 0) = true := by simpa using he
        clear hre hrw hwle hNb hNe hl c
        refine gPASW (aI @h2 <|aI @h3 <|aI @h4 <|aI @ho <|aI @r2 <|aI @r3 <|aI @hty <|aI @co101 <|aI @sr101 <|aI @co88 <|aI @sr88 <|aI @co81 <|aI @sr81 <|aI @co31 <|aI @sr31 <|aI @q1.iffx <|aI @q2.iffx <|aI @q3.iffx <|aI @q4.iffx <|@e1) ?_
        refine cnd (fun h => ?_) (fun h => ?_)
        · refine gPASW (aI @h2 <|aI @h3 <|aI @h4 <|aI @ho <|aI @r2 <|aI @r3 <|@e4) ?_
          refine ⟨(w, f - 1, acc), ⟨hd, ?_, ?_, ?_, ⟨g, ty, ?_, ?_, by rw [pairsV_length]; exact hty⟩, ?_, hw, hwN, hm1.1, hm1.2, hst⟩, hlt⟩
          all_goals (try refine fSW (aI @h2 <|aI @h3 <|aI @h4 <|aI @r2 <|aI @r3 <|aI @ho <|@pairsV_length) ?_);all_goals try exact True.intro
          simp [Mem.new, Mem.set, ho]
        · simp at h
  · have h := of_decide_eq_false h
    have hf1 : ¬ 1 < f := by omega
    rw [stepL_end hf1, List.append_nil] at hst
    rw [hst]
    refine gPAS (aI @h2 <|aI @r2 <|@ho) ?_
    refine fin_ret (X := X) (fn := Tryd.f100) (vs := [.rs ⟨2, 2, 1, g⟩ ty 0 acc.length]) hd ?_ ?_ ?_
    · simp (maxSteps := 2000000) (disch := omega) only [SA, ofValue, ofCell, bin, intBin, un, idx, Go.Ev.builtin, calleeOf, V.isNilS, V.depthOk, depth1, V.ok1, V.isAgg, V.cells, isConst, Nat.reduceBEq, Nat.reduceEqDiff, ↓reduceIte, Nat.reduceLeDiff, Nat.reduceAdd, Nat.reduceMul, Nat.reduceSub, Nat.reduceLT, Int.reduceAdd, Int.reduceSub, Int.reduceMul, Int.reduceLT, Int.reduceLE, Int.reduceToNat, Int.reduceNeg, reduceIte, reduceCtorEq, SPx, Tryd.results100, resVars, resVar]
    · simp (maxSteps := 2000000) (disch := omega) only [SA, ofValue, ofCell, bin, intBin, un, idx, Go.Ev.builtin, calleeOf, V.isNilS, V.depthOk, depth1, V.ok1, V.isAgg, V.cells, isConst, Nat.reduceBEq, Nat.reduceEqDiff, ↓reduceIte, Nat.reduceLeDiff, Nat.reduceAdd, Nat.reduceMul, Nat.reduceSub, Nat.reduceLT, Int.reduceAdd, Int.reduceSub, Int.reduceMul, Int.reduceLT, Int.reduceLE, Int.reduceToNat, Int.reduceNeg, reduceIte, reduceCtorEq, SPx, SAx, resOf, X_own, r2, pairsV_length, cut_pairs]
    · refine (frzR_own (fun r ty off len hm => ?_)).trans ho
      simp [resOf, leaves, leaves2] at hm
      rw [hm.1, ho]; rfl
end Go.Proofs.YtpocekfifokndaaDoor
namespace Go.Proofs.YtpocekfifokndaaDoor
open Go Go.Ev Go.Pl
set_option maxRecDepth 100000
set_option maxHeartbeats 4000000
def stepsS (a : List Int) : List Nat × Int := if (regS a).2.2.2 ≠ 0 then ([], (regS a).2.2.2) else (stepL (numI a) 81, 0)
theorem P40 (a : List Int) : Ans X 40 [.sl (ints a)] (.ret (.tup [.sl (pairsV (stepsS a).1), vi (stepsS a).2])) := by
  refine call_of_X (fn := Tryd.f40) 1 Tryd.func40 rfl (by decide +kernel) rfl ?_ ?_ ?_ ?_
  · rfl
  · intro h; exact absurd h (by rw [sr40]; decide)
  · intro v hv; injection hv with hv; subst hv; rfl
  intro s hs hd ho
  have hm : s.m = ⟨.nil, []⟩ := by subst hs; rfl
  have h0 : s.t.get 0 = .sl (ints a) := by subst hs; rfl
  clear hs
  have key : ∀ (m : Mem) (dst : Nat) (K KP : V → Mem → Prop), m.out = [] → m.row ⟨0, 1, 0, 1⟩ = some ⟨1, 22, false, false, [.sl (ints a)]⟩ →
      (CallQ X 99 [vi (regS a).2.2.2, .fn 100 [] [.ptr ⟨0, 1, 0, 1⟩ 0 0]] m dst K KP ↔ K (.tup [.sl (pairsV (stepsS a).1), vi (stepsS a).2]) m) := by
    rintro ⟨own, out⟩ dst K KP ho r1
    dsimp only at ho
    subst ho
    by_cases h : (regS a).2.2.2 = 0
    · obtain ⟨hc, hl, hN⟩ := reg_spec h
      obtain ⟨b1, b2, b3, b4, _⟩ := chk_ok hc
      rw [b1] at r1
      rw [h]
      refine AnsAt.iff (m := ⟨own, []⟩) (M99 100 _ own (.ret (.sl (pairsV (stepL (numI a) 81)))) rfl co100 sr100 (fun o1 => P100 (natsOf a) b2 (by omega) (numI a) rfl (numI_pos hc hl) o1 own r1) _ (.inl ⟨_, rfl, ?_⟩))
      rw [stepsS, if_neg (fun e => e h)]
    · refine AnsAt.iff (m := ⟨own, []⟩) ?_
      have := M99e (regS a).2.2.2 h 100 [.ptr ⟨0, 1, 0, 1⟩ 0 0] own rfl
      rw [stepsS, if_pos h]; exact this
  refine gPA (aI @h0 <|aI @hm <|aI @co31 <|aI @sr31 <|((P31 a).iffx)) ?_
  with_reducible refine W_region_k ?_
  intro K hK
  simp (maxSteps := 2000000) (disch := omega) only [SA, ofValue, ofCell, bin, intBin, un, idx, Go.Ev.builtin, calleeOf, V.isNilS, V.depthOk, depth1, V.ok1, V.isAgg, V.cells, isConst, Nat.reduceBEq, Nat.reduceEqDiff, ↓reduceIte, Nat.reduceLeDiff, Nat.reduceAdd, Nat.reduceMul, Nat.reduceSub, Nat.reduceLT, Int.reduceAdd, Int.reduceSub, Int.reduceMul, Int.reduceLT, Int.reduceLE, Int.reduceToNat, Int.reduceNeg, reduceIte, reduceCtorEq, SPx, SAx, hm, co99, sr99]
  rw [key _ _ _ _ rfl (by simp [Mem.row_new, Mem.row_setW, Mem.new_out, Mem.gen_new, Mem.gen_nil])]
  simp (maxSteps := 2000000) (disch := omega) only [SA, ofValue, ofCell, bin, intBin, un, idx, Go.Ev.builtin, calleeOf, V.isNilS, V.depthOk, depth1, V.ok1, V.isAgg, V.cells, isConst, Nat.reduceBEq, Nat.reduceEqDiff, ↓reduceIte, Nat.reduceLeDiff, Nat.reduceAdd, Nat.reduceMul, Nat.reduceSub, Nat.reduceLT, Int.reduceAdd, Int.reduceSub, Int.reduceMul, Int.reduceLT, Int.reduceLE, Int.reduceToNat, Int.reduceNeg, reduceIte, reduceCtorEq, SPx, SAx]
  refine hK _ _ ?_
  clear hK K
  refine gP @Nat.zero_add ?_
  refine rP hd @Tryd.results40 ?_
  try exact True.intro
end Go.Proofs.YtpocekfifokndaaDoor
namespace Go.Proofs.YtpocekfifokndaaDoor
open Go Go.Ev Go.Pl
set_option maxRecDepth 100000
set_option maxHeartbeats 4000000
theorem D139n (own oM : Go.Ev.Rows) : ∃ k, evD X k 139 [.ptr ⟨1, 4, 0, 1⟩ 0 0, .ptr ⟨1, 5, 0, 1⟩ 0 0] [own, oM] none = some [own, oM] := by
  refine evD_of (X := X) (fn := Tryd.f139) Tryd.func139 rfl rfl ⟨by decide +kernel, Nat.le_of_ble_eq_true rfl, rfl, co139⟩ rfl ?_
  have hm : (enter [V.ptr ⟨1, 4, 0, 1⟩ 0 0, V.ptr ⟨1, 5, 0, 1⟩ 0 0] [own, oM]).m = ⟨.nil, [own, oM]⟩ := rfl
  have hd : (enter [V.ptr ⟨1, 4, 0, 1⟩ 0 0, V.ptr ⟨1, 5, 0, 1⟩ 0 0] [own, oM]).dfs = [] := rfl
  generalize enter [V.ptr ⟨1, 4, 0, 1⟩ 0 0, V.ptr ⟨1, 5, 0, 1⟩ 0 0] [own, oM] = s at *
  refine WL_k ?_
  intro K hK
  simp (maxSteps := 2000000) (disch := omega) only [SA, ofValue, ofCell, bin, intBin, un, idx, Go.Ev.builtin, calleeOf, V.isNilS, V.depthOk, depth1, V.ok1, V.isAgg, V.cells, isConst, Nat.reduceBEq, Nat.reduceEqDiff, ↓reduceIte, Nat.reduceLeDiff, Nat.reduceAdd, Nat.reduceMul, Nat.reduceSub, Nat.reduceLT, Int.reduceAdd, Int.reduceSub, Int.reduceMul, Int.reduceLT, Int.reduceLE, Int.reduceToNat, Int.reduceNeg, reduceIte, reduceCtorEq, SPx, hm]
  refine hK _ _ ⟨rfl, ?_⟩
  clear hK K
  repeat (first
    | with_reducible first | refine W_seq ?_ | refine W_skip ?_ | refine W_label ?_ | refine W_ret ?_ | refine W_exit ?_ | refine W_block ?_ | refine thenI ?_ | refine thenRet ?_ | refine thenExit ?_ | refine blockRet ?_ | refine blockI ?_ | refine blockExit ?_ | refine blockExitNe rfl ?_
    | (with_reducible refine W_region_k ?_
       intro K hK
       simp (maxSteps := 2000000) (disch := omega) only [SA, ofValue, ofCell, bin, intBin, un, idx, Go.Ev.builtin, calleeOf, V.isNilS, V.depthOk, depth1, V.ok1, V.isAgg, V.cells, isConst, Nat.reduceBEq, Nat.reduceEqDiff, ↓reduceIte, Nat.reduceLeDiff, Nat.reduceAdd, Nat.reduceMul, Nat.reduceSub, Nat.reduceLT, Int.reduceAdd, Int.reduceSub, Int.reduceMul, Int.reduceLT, Int.reduceLE, Int.reduceToNat, Int.reduceNeg, reduceIte, reduceCtorEq, SPx, bin, eqOk, eqT, isConst, Bool.or_true, Option.map_some]
       refine hK _ _ ?_
       clear hK K)
  )
  refine cnd (fun h => ?_) (fun h => ?_)
  · simp at h
  · refine gP @Nat.zero_add ?_
    exact ⟨.inl rfl, by simp [hd], rfl⟩
theorem D139p (own oM : Go.Ev.Rows) (k : Int) (x4 x5 : V) (h4 : (⟨own, [oM]⟩ : Mem).row ⟨1, 4, 0, 1⟩ = some ⟨1, 64, false, false, [x4]⟩) (h5 : (⟨own, [oM]⟩ : Mem).row ⟨1, 5, 0, 1⟩ = some ⟨1, 23, false, false, [x5]⟩) :
    ∃ j, evD X j 139 [.ptr ⟨1, 4, 0, 1⟩ 0 0, .ptr ⟨1, 5, 0, 1⟩ 0 0] [own, oM] (some (.ifc 23 (vi k))) =
      some [((own.upd 4 500 ⟨(own.get 4 500).g + 1, 0, true, false, []⟩).upd 4 0 ⟨1, 64, false, false, [.rs ⟨1, 4, 500, (own.get 4 500).g + 1⟩ 0 0 0]⟩).upd 5 0 ⟨1, 23, false, false, [vi k]⟩, oM] := by
  refine evD_of (X := X) (fn := Tryd.f139) Tryd.func139 rfl rfl ⟨by decide +kernel, Nat.le_of_ble_eq_true rfl, rfl, co139⟩ rfl ?_
  have hm : (enter [V.ptr ⟨1, 4, 0, 1⟩ 0 0, V.ptr ⟨1, 5, 0, 1⟩ 0 0] [own, oM]).m = ⟨.nil, [own, oM]⟩ := rfl
  have hd : (enter [V.ptr ⟨1, 4, 0, 1⟩ 0 0, V.ptr ⟨1, 5, 0, 1⟩ 0 0] [own, oM]).dfs = [] := rfl
  have t0 : (enter [V.ptr ⟨1, 4, 0, 1⟩ 0 0, V.ptr ⟨1, 5, 0, 1⟩ 0 0] [own, oM]).t.get 0 = .ptr ⟨1, 4, 0, 1⟩ 0 0 := rfl
  have t1 : (enter [V.ptr ⟨1, 4, 0, 1⟩ 0 0, V.ptr ⟨1, 5, 0, 1⟩ 0 0] [own, oM]).t.get 1 = .ptr ⟨1, 5, 0, 1⟩ 0 0 := rfl
  generalize enter [V.ptr ⟨1, 4, 0, 1⟩ 0 0, V.ptr ⟨1, 5, 0, 1⟩ 0 0] [own, oM] = s at *
  have h4' : (⟨.nil, [own, oM]⟩ : Mem).row ⟨1, 4, 0, 1⟩ = some ⟨1, 64, false, false, [x4]⟩ := by rw [row_outer _ _ _ _ (by simp), h4]
  have h5' : (⟨.nil, [own, oM]⟩ : Mem).row ⟨1, 5, 0, 1⟩ = some ⟨1, 23, false, false, [x5]⟩ := by rw [row_outer _ _ _ _ (by simp), h5]
  refine WL_k ?_
  intro K hK
  simp (maxSteps := 2000000) (disch := omega) only [SA, ofValue, ofCell, bin, intBin, un, idx, Go.Ev.builtin, calleeOf, V.isNilS, V.depthOk, depth1, V.ok1, V.isAgg, V.cells, isConst, Nat.reduceBEq, Nat.reduceEqDiff, ↓reduceIte, Nat.reduceLeDiff, Nat.reduceAdd, Nat.reduceMul, Nat.reduceSub, Nat.reduceLT, Int.reduceAdd, Int.reduceSub, Int.reduceMul, Int.reduceLT, Int.reduceLE, Int.reduceToNat, Int.reduceNeg, reduceIte, reduceCtorEq, SPx, hm]
  refine hK _ _ ⟨rfl, ?_⟩
  clear hK K
  repeat (first
    | with_reducible first | refine W_seq ?_ | refine W_skip ?_ | refine W_label ?_ | refine W_ret ?_ | refine W_exit ?_ | refine W_block ?_ | refine thenI ?_ | refine thenRet ?_ | refine thenExit ?_ | refine blockRet ?_ | refine blockI ?_ | refine blockExit ?_ | refine blockExitNe rfl ?_
    | (with_reducible refine W_region_k ?_
       intro K hK
       simp (maxSteps := 2000000) (disch := omega) only [SA, ofValue, ofCell, bin, intBin, un, idx, Go.Ev.builtin, calleeOf, V.isNilS, V.depthOk, depth1, V.ok1, V.isAgg, V.cells, isConst, Nat.reduceBEq, Nat.reduceEqDiff, ↓reduceIte, Nat.reduceLeDiff, Nat.reduceAdd, Nat.reduceMul, Nat.reduceSub, Nat.reduceLT, Int.reduceAdd, Int.reduceSub, Int.reduceMul, Int.reduceLT, Int.reduceLE, Int.reduceToNat, Int.reduceNeg, reduceIte, reduceCtorEq, SPx, bin, eqOk, eqT, isConst, Bool.or_true, Option.map_some]
       refine hK _ _ ?_
       clear hK K)
  )
  refine cnd (fun h => ?_) (fun h => ?_)
  · refine gPAS (aI @t0 <|aI @t1 <|aI @h4' <|aI @h5' <|aI @co133 <|aI @sr133 <|aI ((P133 k).iffx) <|aI @Mem.rows_new <|@Mem.rows_lit) ?_
    refine ⟨.inl rfl, by simp [hd], ?_⟩
    simp [Mem.new, Mem.set, outSet]
  · simp at h
theorem fin116 {oM : Go.Ev.Rows} {s : St} {es : List V} {k : Int} (hd : s.dfs = [(139, [.ptr ⟨1, 4, 0, 1⟩ 0 0, .ptr ⟨1, 5, 0, 1⟩ 0 0])]) (ho : s.m.out = [oM]) (h4 : s.t.get 4 = .ptr ⟨1, 4, 0, 1⟩ 0 0) (h5 : s.t.get 5 = .ptr ⟨1, 5, 0, 1⟩ 0 0)
    (r4 : s.m.row ⟨1, 4, 0, 1⟩ = some ⟨1, 64, false, false, [.sl es]⟩) (r5 : s.m.row ⟨1, 5, 0, 1⟩ = some ⟨1, 23, false, false, [vi k]⟩) :
    finQ X Tryd.f116 (.ret (.tup [.sl es, vi k]), [oM]) .ret s := by
  obtain ⟨t, ⟨own, out⟩, dfs⟩ := s
  dsimp only at hd ho h4 h5 r4 r5
  subst ho
  refine fin_ret1 (own := own) (vs := [.sl es, vi k]) hd (D139n own oM) ?_ rfl rfl
  simp (maxSteps := 2000000) (disch := omega) only [SA, ofValue, ofCell, bin, intBin, un, idx, Go.Ev.builtin, calleeOf, V.isNilS, V.depthOk, depth1, V.ok1, V.isAgg, V.cells, isConst, Nat.reduceBEq, Nat.reduceEqDiff, ↓reduceIte, Nat.reduceLeDiff, Nat.reduceAdd, Nat.reduceMul, Nat.reduceSub, Nat.reduceLT, Int.reduceAdd, Int.reduceSub, Int.reduceMul, Int.reduceLT, Int.reduceLE, Int.reduceToNat, Int.reduceNeg, reduceIte, reduceCtorEq, SPx, Tryd.results116, resVars, resVar, h4, h5, r4, r5]
theorem fin116p {oM : Go.Ev.Rows} {s : St} {x4 x5 : V} {k : Int} (hd : s.dfs = [(139, [.ptr ⟨1, 4, 0, 1⟩ 0 0, .ptr ⟨1, 5, 0, 1⟩ 0 0])]) (ho : s.m.out = [oM]) (h4 : s.t.get 4 = .ptr ⟨1, 4, 0, 1⟩ 0 0) (h5 : s.t.get 5 = .ptr ⟨1, 5, 0, 1⟩ 0 0)
    (r4 : s.m.row ⟨1, 4, 0, 1⟩ = some ⟨1, 64, false, false, [x4]⟩) (r5 : s.m.row ⟨1, 5, 0, 1⟩ = some ⟨1, 23, false, false, [x5]⟩) :
    finQ X Tryd.f116 (.ret (.tup [.sl [], vi k]), [oM]) (.panic (.ifc 23 (vi k))) s := by
  obtain ⟨t, ⟨own, out⟩, dfs⟩ := s
  dsimp only at hd ho h4 h5 r4 r5
  subst ho
  refine fin_panic1 (vs := [.rs ⟨1, 4, 500, (own.get 4 500).g + 1⟩ 0 0 0, vi k]) hd (D139p own oM k x4 x5 r4 r5) ?_ ?_ ?_
  · rw [← set_own _ [oM] 1 5 0 _ rfl, ← set_own _ [oM] 1 4 0 _ rfl, ← set_own _ [oM] 1 4 500 _ rfl]
    simp (maxSteps := 2000000) (disch := omega) only [SA, ofValue, ofCell, bin, intBin, un, idx, Go.Ev.builtin, calleeOf, V.isNilS, V.depthOk, depth1, V.ok1, V.isAgg, V.cells, isConst, Nat.reduceBEq, Nat.reduceEqDiff, ↓reduceIte, Nat.reduceLeDiff, Nat.reduceAdd, Nat.reduceMul, Nat.reduceSub, Nat.reduceLT, Int.reduceAdd, Int.reduceSub, Int.reduceMul, Int.reduceLT, Int.reduceLE, Int.reduceToNat, Int.reduceNeg, reduceIte, reduceCtorEq, SPx, Tryd.results116, resVars, resVar, h4, h5, r4, r5]
  · rw [← set_own _ [oM] 1 5 0 _ rfl, ← set_own _ [oM] 1 4 0 _ rfl, ← set_own _ [oM] 1 4 500 _ rfl]
    simp (maxSteps := 2000000) (disch := omega) only [SA, ofValue, ofCell, bin, intBin, un, idx, Go.Ev.builtin, calleeOf, V.isNilS, V.depthOk, depth1, V.ok1, V.isAgg, V.cells, isConst, Nat.reduceBEq, Nat.reduceEqDiff, ↓reduceIte, Nat.reduceLeDiff, Nat.reduceAdd, Nat.reduceMul, Nat.reduceSub, Nat.reduceLT, Int.reduceAdd, Int.reduceSub, Int.reduceMul, Int.reduceLT, Int.reduceLE, Int.reduceToNat, Int.reduceNeg, reduceIte, reduceCtorEq, SPx, SAx, resOf, X_own, mv_tup, mv2s_cons, mv2s_nil, mv2_int, cut, List.take_zero, List.drop_zero]
  · exact frzR_own (fun r ty off len hm => by
      simp [resOf, leaves, leaves2] at hm
      rw [hm.1]; rfl)
theorem M116 (g : FuncId) (cap : List V) (oM : Go.Ev.Rows) (r : Res) (hcap : cap.any V.loose = true) (hco : callOk Tryd.prog g = true) (hsr : scalarRes Tryd.prog g = false) (hg : ∀ own, AnsAt X g cap [own, oM] r)
    (R : Res) (hR : (∃ es, r = .ret (.sl es) ∧ R = .ret (.tup [.sl es, vi 0])) ∨ (∃ k, r = .panic (.ifc 23 (vi k)) ∧ R = .ret (.tup [.sl [], vi k]))) :
    AnsAt X 116 [vi 0, .fn g [] cap] [oM] R := by
  have hne : cap.isEmpty = false := by cases cap with | nil => simp at hcap | cons _ _ => rfl
  refine ⟨rfl, by simp [V.refs, V.loose, hne], fun v hv => ?_, ?_⟩
  · rcases hR with ⟨es, _, rfl⟩ | ⟨k, _, rfl⟩
    · injection hv with hv; subst hv; rfl
    · injection hv with hv; subst hv; rfl
  refine runsAt_of (X := X) (fn := Tryd.f116) Tryd.func116 rfl ⟨by decide +kernel, Nat.le_of_ble_eq_true rfl⟩ ?_
  have hd : (enter [vi 0, V.fn g [] cap] [oM]).dfs = [] := rfl
  have h0 : (enter [vi 0, V.fn g [] cap] [oM]).t.get 0 = vi 0 := rfl
  have h1 : (enter [vi 0, V.fn g [] cap] [oM]).t.get 1 = .fn g [] cap := rfl
  have hm : (enter [vi 0, V.fn g [] cap] [oM]).m = ⟨.nil, [oM]⟩ := rfl
  generalize enter [vi 0, V.fn g [] cap] [oM] = s at *
  refine gPA (aI @h0 <|aI @h1 <|@hm) ?_
  refine cnd (fun h => ?_) (fun h => ?_)
  · simp at h
  refine gPA (aI @h0 <|aI @h1 <|@hm) ?_
  have key : ∀ (m : Mem) (dst : Nat) (K KP : V → Mem → Prop), m.out = [oM] → CallQ X g cap m dst K KP = (match r with | .ret v => K v m | .panic v => KP v m) := by
    intro m dst K KP hmo
    have hh := hg m.own
    rw [← hmo] at hh
    cases r with
    | ret v => exact propext hh.iff
    | panic v => exact propext hh.panics
  with_reducible refine W_region_k ?_
  intro K hK
  simp (maxSteps := 2000000) (disch := omega) only [SA, ofValue, ofCell, bin, intBin, un, idx, Go.Ev.builtin, calleeOf, V.isNilS, V.depthOk, depth1, V.ok1, V.isAgg, V.cells, isConst, Nat.reduceBEq, Nat.reduceEqDiff, ↓reduceIte, Nat.reduceLeDiff, Nat.reduceAdd, Nat.reduceMul, Nat.reduceSub, Nat.reduceLT, Int.reduceAdd, Int.reduceSub, Int.reduceMul, Int.reduceLT, Int.reduceLE, Int.reduceToNat, Int.reduceNeg, reduceIte, reduceCtorEq, SPx, SAx, h0, h1, hm, hd, hco, hsr]
  rw [key _ _ _ _ rfl]
  rcases hR with ⟨es, rfl, rfl⟩ | ⟨k, rfl, rfl⟩
  · simp (maxSteps := 2000000) (disch := omega) only [SA, ofValue, ofCell, bin, intBin, un, idx, Go.Ev.builtin, calleeOf, V.isNilS, V.depthOk, depth1, V.ok1, V.isAgg, V.cells, isConst, Nat.reduceBEq, Nat.reduceEqDiff, ↓reduceIte, Nat.reduceLeDiff, Nat.reduceAdd, Nat.reduceMul, Nat.reduceSub, Nat.reduceLT, Int.reduceAdd, Int.reduceSub, Int.reduceMul, Int.reduceLT, Int.reduceLE, Int.reduceToNat, Int.reduceNeg, reduceIte, reduceCtorEq, SPx, SAx, SSx, appendTo, elemsOf]
    refine hK _ _ ?_
    clear hK K
    refine gP @Nat.zero_add ?_
    refine fin116 (es := es) (k := 0) ?_ ?_ ?_ ?_ ?_ ?_
    all_goals (try refine f0 @hd ?_);all_goals try exact True.intro
    all_goals first | rfl | simp [Mem.new, Mem.set]
  · simp (maxSteps := 2000000) (disch := omega) only [SA, ofValue, ofCell, bin, intBin, un, idx, Go.Ev.builtin, calleeOf, V.isNilS, V.depthOk, depth1, V.ok1, V.isAgg, V.cells, isConst, Nat.reduceBEq, Nat.reduceEqDiff, ↓reduceIte, Nat.reduceLeDiff, Nat.reduceAdd, Nat.reduceMul, Nat.reduceSub, Nat.reduceLT, Int.reduceAdd, Int.reduceSub, Int.reduceMul, Int.reduceLT, Int.reduceLE, Int.reduceToNat, Int.reduceNeg, reduceIte, reduceCtorEq, SPx, SAx, SSx, appendTo, elemsOf]
    refine hK _ _ ?_
    clear hK K
    refine gP @Nat.zero_add ?_
    refine fin116p (k := k) (x4 := .rs ⟨1, 4, 1, 1⟩ 0 0 0) (x5 := vi 0) ?_ ?_ ?_ ?_ ?_ ?_
    all_goals (try refine f0 @hd ?_);all_goals try exact True.intro
    all_goals first | rfl | simp [Mem.new, Mem.set]
theorem M116e (e : Int) (he : e ≠ 0) (g : FuncId) (cap : List V) (oM : Go.Ev.Rows) (hcap : cap.any V.loose = true) : AnsAt X 116 [vi e, .fn g [] cap] [oM] (.ret (.tup [.sl [], vi e])) := by
  have hne : cap.isEmpty = false := by cases cap with | nil => simp at hcap | cons _ _ => rfl
  refine ⟨rfl, by simp [V.refs, V.loose, hne], fun v hv => ?_, ?_⟩
  · injection hv with hv; subst hv; rfl
  refine runsAt_of (X := X) (fn := Tryd.f116) Tryd.func116 rfl ⟨by decide +kernel, Nat.le_of_ble_eq_true rfl⟩ ?_
  have hd : (enter [vi e, V.fn g [] cap] [oM]).dfs = [] := rfl
  have h0 : (enter [vi e, V.fn g [] cap] [oM]).t.get 0 = vi e := rfl
  have h1 : (enter [vi e, V.fn g [] cap] [oM]).t.get 1 = .fn g [] cap := rfl
  have hm : (enter [vi e, V.fn g [] cap] [oM]).m = ⟨.nil, [oM]⟩ := rfl
  generalize enter [vi e, V.fn g [] cap] [oM] = s at *
  refine gPA (aI @h0 <|aI @h1 <|@hm) ?_
  refine cnd (fun h => ?_) (fun h => ?_)
  · refine gPA (aI @h0 <|aI @h1 <|@hm) ?_
    refine fin_ret (X := X) (fn := Tryd.f116) (vs := [.rs ⟨1, 4, 1, 1⟩ 0 0 0, vi e]) hd ?_ ?_ ?_
    · simp (maxSteps := 2000000) (disch := omega) only [SA, ofValue, ofCell, bin, intBin, un, idx, Go.Ev.builtin, calleeOf, V.isNilS, V.depthOk, depth1, V.ok1, V.isAgg, V.cells, isConst, Nat.reduceBEq, Nat.reduceEqDiff, ↓reduceIte, Nat.reduceLeDiff, Nat.reduceAdd, Nat.reduceMul, Nat.reduceSub, Nat.reduceLT, Int.reduceAdd, Int.reduceSub, Int.reduceMul, Int.reduceLT, Int.reduceLE, Int.reduceToNat, Int.reduceNeg, reduceIte, reduceCtorEq, SPx, SAx, Tryd.results116, resVars, resVar]
    · simp (maxSteps := 2000000) (disch := omega) only [SA, ofValue, ofCell, bin, intBin, un, idx, Go.Ev.builtin, calleeOf, V.isNilS, V.depthOk, depth1, V.ok1, V.isAgg, V.cells, isConst, Nat.reduceBEq, Nat.reduceEqDiff, ↓reduceIte, Nat.reduceLeDiff, Nat.reduceAdd, Nat.reduceMul, Nat.reduceSub, Nat.reduceLT, Int.reduceAdd, Int.reduceSub, Int.reduceMul, Int.reduceLT, Int.reduceLE, Int.reduceToNat, Int.reduceNeg, reduceIte, reduceCtorEq, SPx, SAx, resOf, X_own, mv_tup, mv2s_cons, mv2s_nil, mv2_int, cut, List.take_zero, List.drop_zero]
    · refine (frzR_own (fun r ty off len hm => ?_)).trans ?_
      · simp [resOf, leaves, leaves2] at hm
        rw [hm.1]; rfl
      · rfl
  · exact absurd (by simpa using h) he
end Go.Proofs.YtpocekfifokndaaDoor
namespace Go.Proofs.YtpocekfifokndaaDoor
open Go Go.Ev Go.Pl
set_option maxRecDepth 100000
set_option maxHeartbeats 4000000
theorem D138n (own oM : Go.Ev.Rows) : ∃ k, evD X k 138 [.ptr ⟨1, 4, 0, 1⟩ 0 0, .ptr ⟨1, 5, 0, 1⟩ 0 0] [own, oM] none = some [own, oM] := by
  refine evD_of (X := X) (fn := Tryd.f138) Tryd.func138 rfl rfl ⟨by decide +kernel, Nat.le_of_ble_eq_true rfl, rfl, co138⟩ rfl ?_
  have hm : (enter [V.ptr ⟨1, 4, 0, 1⟩ 0 0, V.ptr ⟨1, 5, 0, 1⟩ 0 0] [own, oM]).m = ⟨.nil, [own, oM]⟩ := rfl
  have hd : (enter [V.ptr ⟨1, 4, 0, 1⟩ 0 0, V.ptr ⟨1, 5, 0, 1⟩ 0 0] [own, oM]).dfs = [] := rfl
  generalize enter [V.ptr ⟨1, 4, 0, 1⟩ 0 0, V.ptr ⟨1, 5, 0, 1⟩ 0 0] [own, oM] = s at *
  refine WL_k ?_
  intro K hK
  simp (maxSteps := 2000000) (disch := omega) only [SA, ofValue, ofCell, bin, intBin, un, idx, Go.Ev.builtin, calleeOf, V.isNilS, V.depthOk, depth1, V.ok1, V.isAgg, V.cells, isConst, Nat.reduceBEq, Nat.reduceEqDiff, ↓reduceIte, Nat.reduceLeDiff, Nat.reduceAdd, Nat.reduceMul, Nat.reduceSub, Nat.reduceLT, Int.reduceAdd, Int.reduceSub, Int.reduceMul, Int.reduceLT, Int.reduceLE, Int.reduceToNat, Int.reduceNeg, reduceIte, reduceCtorEq, SPx, hm]
  refine hK _ _ ⟨rfl, ?_⟩
  clear hK K
  repeat (first
    | with_reducible first | refine W_seq ?_ | refine W_skip ?_ | refine W_label ?_ | refine W_ret ?_ | refine W_exit ?_ | refine W_block ?_ | refine thenI ?_ | refine thenRet ?_ | refine thenExit ?_ | refine blockRet ?_ | refine blockI ?_ | refine blockExit ?_ | refine blockExitNe rfl ?_
    | (with_reducible refine W_region_k ?_
       intro K hK
       simp (maxSteps := 2000000) (disch := omega) only [SA, ofValue, ofCell, bin, intBin, un, idx, Go.Ev.builtin, calleeOf, V.isNilS, V.depthOk, depth1, V.ok1, V.isAgg, V.cells, isConst, Nat.reduceBEq, Nat.reduceEqDiff, ↓reduceIte, Nat.reduceLeDiff, Nat.reduceAdd, Nat.reduceMul, Nat.reduceSub, Nat.reduceLT, Int.reduceAdd, Int.reduceSub, Int.reduceMul, Int.reduceLT, Int.reduceLE, Int.reduceToNat, Int.reduceNeg, reduceIte, reduceCtorEq, SPx, bin, eqOk, eqT, isConst, Bool.or_true, Option.map_some]
       refine hK _ _ ?_
       clear hK K)
  )
  refine cnd (fun h => ?_) (fun h => ?_)
  · simp at h
  · refine gP @Nat.zero_add ?_
    exact ⟨.inl rfl, by simp [hd], rfl⟩
theorem D138p (own oM : Go.Ev.Rows) (k : Int) (x4 x5 : V) (h4 : (⟨own, [oM]⟩ : Mem).row ⟨1, 4, 0, 1⟩ = some ⟨1, 61, false, false, [x4]⟩) (h5 : (⟨own, [oM]⟩ : Mem).row ⟨1, 5, 0, 1⟩ = some ⟨1, 23, false, false, [x5]⟩) :
    ∃ j, evD X j 138 [.ptr ⟨1, 4, 0, 1⟩ 0 0, .ptr ⟨1, 5, 0, 1⟩ 0 0] [own, oM] (some (.ifc 23 (vi k))) =
      some [((own.upd 4 500 ⟨(own.get 4 500).g + 1, 0, true, false, []⟩).upd 4 0 ⟨1, 61, false, false, [.rs ⟨1, 4, 500, (own.get 4 500).g + 1⟩ 0 0 0]⟩).upd 5 0 ⟨1, 23, false, false, [vi k]⟩, oM] := by
  refine evD_of (X := X) (fn := Tryd.f138) Tryd.func138 rfl rfl ⟨by decide +kernel, Nat.le_of_ble_eq_true rfl, rfl, co138⟩ rfl ?_
  have hm : (enter [V.ptr ⟨1, 4, 0, 1⟩ 0 0, V.ptr ⟨1, 5, 0, 1⟩ 0 0] [own, oM]).m = ⟨.nil, [own, oM]⟩ := rfl
  have hd : (enter [V.ptr ⟨1, 4, 0, 1⟩ 0 0, V.ptr ⟨1, 5, 0, 1⟩ 0 0] [own, oM]).dfs = [] := rfl
  have t0 : (enter [V.ptr ⟨1, 4, 0, 1⟩ 0 0, V.ptr ⟨1, 5, 0, 1⟩ 0 0] [own, oM]).t.get 0 = .ptr ⟨1, 4, 0, 1⟩ 0 0 := rfl
  have t1 : (enter [V.ptr ⟨1, 4, 0, 1⟩ 0 0, V.ptr ⟨1, 5, 0, 1⟩ 0 0] [own, oM]).t.get 1 = .ptr ⟨1, 5, 0, 1⟩ 0 0 := rfl
  generalize enter [V.ptr ⟨1, 4, 0, 1⟩ 0 0, V.ptr ⟨1, 5, 0, 1⟩ 0 0] [own, oM] = s at *
  have h4' : (⟨.nil, [own, oM]⟩ : Mem).row ⟨1, 4, 0, 1⟩ = some ⟨1, 61, false, false, [x4]⟩ := by rw [row_outer _ _ _ _ (by simp), h4]
  have h5' : (⟨.nil, [own, oM]⟩ : Mem).row ⟨1, 5, 0, 1⟩ = some ⟨1, 23, false, false, [x5]⟩ := by rw [row_outer _ _ _ _ (by simp), h5]
  refine WL_k ?_
  intro K hK
  simp (maxSteps := 2000000) (disch := omega) only [SA, ofValue, ofCell, bin, intBin, un, idx, Go.Ev.builtin, calleeOf, V.isNilS, V.depthOk, depth1, V.ok1, V.isAgg, V.cells, isConst, Nat.reduceBEq, Nat.reduceEqDiff, ↓reduceIte, Nat.reduceLeDiff, Nat.reduceAdd, Nat.reduceMul, Nat.reduceSub, Nat.reduceLT, Int.reduceAdd, Int.reduceSub, Int.reduceMul, Int.reduceLT, Int.reduceLE, Int.reduceToNat, Int.reduceNeg, reduceIte, reduceCtorEq, SPx, hm]
  refine hK _ _ ⟨rfl, ?_⟩
  clear hK K
  repeat (first
    | with_reducible first | refine W_seq ?_ | refine W_skip ?_ | refine W_label ?_ | refine W_ret ?_ | refine W_exit ?_ | refine W_block ?_ | refine thenI ?_ | refine thenRet ?_ | refine thenExit ?_ | refine blockRet ?_ | refine blockI ?_ | refine blockExit ?_ | refine blockExitNe rfl ?_
    | (with_reducible refine W_region_k ?_
       intro K hK
       simp (maxSteps := 2000000) (disch := omega) only [SA, ofValue, ofCell, bin, intBin, un, idx, Go.Ev.builtin, calleeOf, V.isNilS, V.depthOk, depth1, V.ok1, V.isAgg, V.cells, isConst, Nat.reduceBEq, Nat.reduceEqDiff, ↓reduceIte, Nat.reduceLeDiff, Nat.reduceAdd, Nat.reduceMul, Nat.reduceSub, Nat.reduceLT, Int.reduceAdd, Int.reduceSub, Int.reduceMul, Int.reduceLT, Int.reduceLE, Int.reduceToNat, Int.reduceNeg, reduceIte, reduceCtorEq, SPx, bin, eqOk, eqT, isConst, Bool.or_true, Option.map_some]
       refine hK _ _ ?_
       clear hK K)
  )
  refine cnd (fun h => ?_) (fun h => ?_)
  · refine gPAS (aI @t0 <|aI @t1 <|aI @h4' <|aI @h5' <|aI @co133 <|aI @sr133 <|aI ((P133 k).iffx) <|aI @Mem.rows_new <|@Mem.rows_lit) ?_
    refine ⟨.inl rfl, by simp [hd], ?_⟩
    simp [Mem.new, Mem.set, outSet]
  · simp at h
theorem fin113 {oM : Go.Ev.Rows} {s : St} {es : List V} {k : Int} (hd : s.dfs = [(138, [.ptr ⟨1, 4, 0, 1⟩ 0 0, .ptr ⟨1, 5, 0, 1⟩ 0 0])]) (ho : s.m.out = [oM]) (h4 : s.t.get 4 = .ptr ⟨1, 4, 0, 1⟩ 0 0) (h5 : s.t.get 5 = .ptr ⟨1, 5, 0, 1⟩ 0 0)
    (r4 : s.m.row ⟨1, 4, 0, 1⟩ = some ⟨1, 61, false, false, [.sl es]⟩) (r5 : s.m.row ⟨1, 5, 0, 1⟩ = some ⟨1, 23, false, false, [vi k]⟩) :
    finQ X Tryd.f113 (.ret (.tup [.sl es, vi k]), [oM]) .ret s := by
  obtain ⟨t, ⟨own, out⟩, dfs⟩ := s
  dsimp only at hd ho h4 h5 r4 r5
  subst ho
  refine fin_ret1 (own := own) (vs := [.sl es, vi k]) hd (D138n own oM) ?_ rfl rfl
  simp (maxSteps := 2000000) (disch := omega) only [SA, ofValue, ofCell, bin, intBin, un, idx, Go.Ev.builtin, calleeOf, V.isNilS, V.depthOk, depth1, V.ok1, V.isAgg, V.cells, isConst, Nat.reduceBEq, Nat.reduceEqDiff, ↓reduceIte, Nat.reduceLeDiff, Nat.reduceAdd, Nat.reduceMul, Nat.reduceSub, Nat.reduceLT, Int.reduceAdd, Int.reduceSub, Int.reduceMul, Int.reduceLT, Int.reduceLE, Int.reduceToNat, Int.reduceNeg, reduceIte, reduceCtorEq, SPx, Tryd.results113, resVars, resVar, h4, h5, r4, r5]
theorem fin113p {oM : Go.Ev.Rows} {s : St} {x4 x5 : V} {k : Int} (hd : s.dfs = [(138, [.ptr ⟨1, 4, 0, 1⟩ 0 0, .ptr ⟨1, 5, 0, 1⟩ 0 0])]) (ho : s.m.out = [oM]) (h4 : s.t.get 4 = .ptr ⟨1, 4, 0, 1⟩ 0 0) (h5 : s.t.get 5 = .ptr ⟨1, 5, 0, 1⟩ 0 0)
    (r4 : s.m.row ⟨1, 4, 0, 1⟩ = some ⟨1, 61, false, false, [x4]⟩) (r5 : s.m.row ⟨1, 5, 0, 1⟩ = some ⟨1, 23, false, false, [x5]⟩) :
    finQ X Tryd.f113 (.ret (.tup [.sl [], vi k]), [oM]) (.panic (.ifc 23 (vi k))) s := by
  obtain ⟨t, ⟨own, out⟩, dfs⟩ := s
  dsimp only at hd ho h4 h5 r4 r5
  subst ho
  refine fin_panic1 (vs := [.rs ⟨1, 4, 500, (own.get 4 500).g + 1⟩ 0 0 0, vi k]) hd (D138p own oM k x4 x5 r4 r5) ?_ ?_ ?_
  · rw [← set_own _ [oM] 1 5 0 _ rfl, ← set_own _ [oM] 1 4 0 _ rfl, ← set_own _ [oM] 1 4 500 _ rfl]
    simp (maxSteps := 2000000) (disch := omega) only [SA, ofValue, ofCell, bin, intBin, un, idx, Go.Ev.builtin, calleeOf, V.isNilS, V.depthOk, depth1, V.ok1, V.isAgg, V.cells, isConst, Nat.reduceBEq, Nat.reduceEqDiff, ↓reduceIte, Nat.reduceLeDiff, Nat.reduceAdd, Nat.reduceMul, Nat.reduceSub, Nat.reduceLT, Int.reduceAdd, Int.reduceSub, Int.reduceMul, Int.reduceLT, Int.reduceLE, Int.reduceToNat, Int.reduceNeg, reduceIte, reduceCtorEq, SPx, Tryd.results113, resVars, resVar, h4, h5, r4, r5]
  · rw [← set_own _ [oM] 1 5 0 _ rfl, ← set_own _ [oM] 1 4 0 _ rfl, ← set_own _ [oM] 1 4 500 _ rfl]
    simp (maxSteps := 2000000) (disch := omega) only [SA, ofValue, ofCell, bin, intBin, un, idx, Go.Ev.builtin, calleeOf, V.isNilS, V.depthOk, depth1, V.ok1, V.isAgg, V.cells, isConst, Nat.reduceBEq, Nat.reduceEqDiff, ↓reduceIte, Nat.reduceLeDiff, Nat.reduceAdd, Nat.reduceMul, Nat.reduceSub, Nat.reduceLT, Int.reduceAdd, Int.reduceSub, Int.reduceMul, Int.reduceLT, Int.reduceLE, Int.reduceToNat, Int.reduceNeg, reduceIte, reduceCtorEq, SPx, SAx, resOf, X_own, mv_tup, mv2s_cons, mv2s_nil, mv2_int, cut, List.take_zero, List.drop_zero]
  · exact frzR_own (fun r ty off len hm => by
      simp [resOf, leaves, leaves2] at hm
      rw [hm.1]; rfl)
theorem M113 (g : FuncId) (cap : List V) (oM : Go.Ev.Rows) (r : Res) (hcap : cap.any V.loose = true) (hco : callOk Tryd.prog g = true) (hsr : scalarRes Tryd.prog g = false) (hg : ∀ own, AnsAt X g cap [own, oM] r)
    (R : Res) (hR : (∃ es, r = .ret (.sl es) ∧ R = .ret (.tup [.sl es, vi 0])) ∨ (∃ k, r = .panic (.ifc 23 (vi k)) ∧ R = .ret (.tup [.sl [], vi k]))) :
    AnsAt X 113 [vi 0, .fn g [] cap] [oM] R := by
  have hne : cap.isEmpty = false := by cases cap with | nil => simp at hcap | cons _ _ => rfl
  refine ⟨rfl, by simp [V.refs, V.loose, hne], fun v hv => ?_, ?_⟩
  · rcases hR with ⟨es, _, rfl⟩ | ⟨k, _, rfl⟩
    · injection hv with hv; subst hv; rfl
    · injection hv with hv; subst hv; rfl
  refine runsAt_of (X := X) (fn := Tryd.f113) Tryd.func113 rfl ⟨by decide +kernel, Nat.le_of_ble_eq_true rfl⟩ ?_
  have hd : (enter [vi 0, V.fn g [] cap] [oM]).dfs = [] := rfl
  have h0 : (enter [vi 0, V.fn g [] cap] [oM]).t.get 0 = vi 0 := rfl
  have h1 : (enter [vi 0, V.fn g [] cap] [oM]).t.get 1 = .fn g [] cap := rfl
  have hm : (enter [vi 0, V.fn g [] cap] [oM]).m = ⟨.nil, [oM]⟩ := rfl
  generalize enter [vi 0, V.fn g [] cap] [oM] = s at *
  refine gPA (aI @h0 <|aI @h1 <|@hm) ?_
  refine cnd (fun h => ?_) (fun h => ?_)
  · simp at h
  refine gPA (aI @h0 <|aI @h1 <|@hm) ?_
  have key : ∀ (m : Mem) (dst : Nat) (K KP : V → Mem → Prop), m.out = [oM] → CallQ X g cap m dst K KP = (match r with | .ret v => K v m | .panic v => KP v m) := by
    intro m dst K KP hmo
    have hh := hg m.own
    rw [← hmo] at hh
    cases r with
    | ret v => exact propext hh.iff
    | panic v => exact propext hh.panics
  with_reducible refine W_region_k ?_
  intro K hK
  simp (maxSteps := 2000000) (disch := omega) only [SA, ofValue, ofCell, bin, intBin, un, idx, Go.Ev.builtin, calleeOf, V.isNilS, V.depthOk, depth1, V.ok1, V.isAgg, V.cells, isConst, Nat.reduceBEq, Nat.reduceEqDiff, ↓reduceIte, Nat.reduceLeDiff, Nat.reduceAdd, Nat.reduceMul, Nat.reduceSub, Nat.reduceLT, Int.reduceAdd, Int.reduceSub, Int.reduceMul, Int.reduceLT, Int.reduceLE, Int.reduceToNat, Int.reduceNeg, reduceIte, reduceCtorEq, SPx, SAx, h0, h1, hm, hd, hco, hsr]
  rw [key _ _ _ _ rfl]
  rcases hR with ⟨es, rfl, rfl⟩ | ⟨k, rfl, rfl⟩
  · simp (maxSteps := 2000000) (disch := omega) only [SA, ofValue, ofCell, bin, intBin, un, idx, Go.Ev.builtin, calleeOf, V.isNilS, V.depthOk, depth1, V.ok1, V.isAgg, V.cells, isConst, Nat.reduceBEq, Nat.reduceEqDiff, ↓reduceIte, Nat.reduceLeDiff, Nat.reduceAdd, Nat.reduceMul, Nat.reduceSub, Nat.reduceLT, Int.reduceAdd, Int.reduceSub, Int.reduceMul, Int.reduceLT, Int.reduceLE, Int.reduceToNat, Int.reduceNeg, reduceIte, reduceCtorEq, SPx, SAx, SSx, appendTo, elemsOf]
    refine hK _ _ ?_
    clear hK K
    refine gP @Nat.zero_add ?_
    refine fin113 (es := es) (k := 0) ?_ ?_ ?_ ?_ ?_ ?_
    all_goals (try refine f0 @hd ?_);all_goals try exact True.intro
    all_goals first | rfl | simp [Mem.new, Mem.set]
  · simp (maxSteps := 2000000) (disch := omega) only [SA, ofValue, ofCell, bin, intBin, un, idx, Go.Ev.builtin, calleeOf, V.isNilS, V.depthOk, depth1, V.ok1, V.isAgg, V.cells, isConst, Nat.reduceBEq, Nat.reduceEqDiff, ↓reduceIte, Nat.reduceLeDiff, Nat.reduceAdd, Nat.reduceMul, Nat.reduceSub, Nat.reduceLT, Int.reduceAdd, Int.reduceSub, Int.reduceMul, Int.reduceLT, Int.reduceLE, Int.reduceToNat, Int.reduceNeg, reduceIte, reduceCtorEq, SPx, SAx, SSx, appendTo, elemsOf]
    refine hK _ _ ?_
    clear hK K
    refine gP @Nat.zero_add ?_
    refine fin113p (k := k) (x4 := .rs ⟨1, 4, 1, 1⟩ 0 0 0) (x5 := vi 0) ?_ ?_ ?_ ?_ ?_ ?_
    all_goals (try refine f0 @hd ?_);all_goals try exact True.intro
    all_goals first | rfl | simp [Mem.new, Mem.set]
theorem M113e (e : Int) (he : e ≠ 0) (g : FuncId) (cap : List V) (oM : Go.Ev.Rows) (hcap : cap.any V.loose = true) : AnsAt X 113 [vi e, .fn g [] cap] [oM] (.ret (.tup [.sl [], vi e])) := by
  have hne : cap.isEmpty = false := by cases cap with | nil => simp at hcap | cons _ _ => rfl
  refine ⟨rfl, by simp [V.refs, V.loose, hne], fun v hv => ?_, ?_⟩
  · injection hv with hv; subst hv; rfl
  refine runsAt_of (X := X) (fn := Tryd.f113) Tryd.func113 rfl ⟨by decide +kernel, Nat.le_of_ble_eq_true rfl⟩ ?_
  have hd : (enter [vi e, V.fn g [] cap] [oM]).dfs = [] := rfl
  have h0 : (enter [vi e, V.fn g [] cap] [oM]).t.get 0 = vi e := rfl
  have h1 : (enter [vi e, V.fn g [] cap] [oM]).t.get 1 = .fn g [] cap := rfl
  have hm : (enter [vi e, V.fn g [] cap] [oM]).m = ⟨.nil, [oM]⟩ := rfl
  generalize enter [vi e, V.fn g [] cap] [oM] = s at *
  refine gPA (aI @h0 <|aI @h1 <|@hm) ?_
  refine cnd (fun h => ?_) (fun h => ?_)
  · refine gPA (aI @h0 <|aI @h1 <|@hm) ?_
    refine fin_ret (X := X) (fn := Tryd.f113) (vs := [.rs ⟨1, 4, 1, 1⟩ 0 0 0, vi e]) hd ?_ ?_ ?_
    · simp (maxSteps := 2000000) (disch := omega) only [SA, ofValue, ofCell, bin, intBin, un, idx, Go.Ev.builtin, calleeOf, V.isNilS, V.depthOk, depth1, V.ok1, V.isAgg, V.cells, isConst, Nat.reduceBEq, Nat.reduceEqDiff, ↓reduceIte, Nat.reduceLeDiff, Nat.reduceAdd, Nat.reduceMul, Nat.reduceSub, Nat.reduceLT, Int.reduceAdd, Int.reduceSub, Int.reduceMul, Int.reduceLT, Int.reduceLE, Int.reduceToNat, Int.reduceNeg, reduceIte, reduceCtorEq, SPx, SAx, Tryd.results113, resVars, resVar]
    · simp (maxSteps := 2000000) (disch := omega) only [SA, ofValue, ofCell, bin, intBin, un, idx, Go.Ev.builtin, calleeOf, V.isNilS, V.depthOk, depth1, V.ok1, V.isAgg, V.cells, isConst, Nat.reduceBEq, Nat.reduceEqDiff, ↓reduceIte, Nat.reduceLeDiff, Nat.reduceAdd, Nat.reduceMul, Nat.reduceSub, Nat.reduceLT, Int.reduceAdd, Int.reduceSub, Int.reduceMul, Int.reduceLT, Int.reduceLE, Int.reduceToNat, Int.reduceNeg, reduceIte, reduceCtorEq, SPx, SAx, resOf, X_own, mv_tup, mv2s_cons, mv2s_nil, mv2_int, cut, List.take_zero, List.drop_zero]
    · refine (frzR_own (fun r ty off len hm => ?_)).trans ?_
      · simp [resOf, leaves, leaves2] at hm
        rw [hm.1]; rfl
      · rfl
  · exact absurd (by simpa using h) he
end Go.Proofs.YtpocekfifokndaaDoor
namespace Go.Proofs.YtpocekfifokndaaDoor
open Go Go.Ev Go.Pl
set_option maxRecDepth 100000
set_option maxHeartbeats 4000000
theorem P83 (N : Nat) (hN : (canL N).length < 1000) : Ans X 83 [.sl (nats (canL N))] (.ret (.tup [.sl (nats (digB N)), vn (vz N)])) := by
  refine call_of_X (fn := Tryd.f83) 1 Tryd.func83 rfl (by decide +kernel) rfl ?_ ?_ ?_ ?_
  · rfl
  · intro h; exact absurd h (by rw [sr83]; decide)
  · intro v hv; injection hv with hv; subst hv; rfl
  intro s hs hd ho
  have hm : s.m = ⟨.nil, []⟩ := by subst hs; rfl
  have h0 : s.t.get 0 = .sl (nats (canL N)) := by subst hs; rfl
  clear hs
  have hl := canL_len_core N
  repeat (first
    | with_reducible first | refine W_seq ?_ | refine W_skip ?_ | refine W_label ?_ | refine W_ret ?_ | refine W_exit ?_ | refine thenI ?_ | refine thenRet ?_ | refine thenExit ?_ | refine blockRet ?_ | refine blockI ?_ | refine blockExit ?_ | refine blockExitNe rfl ?_
    | (with_reducible refine W_region_k ?_
       intro K hK
       simp (maxSteps := 2000000) (disch := omega) only [SA, ofValue, ofCell, bin, intBin, un, idx, Go.Ev.builtin, calleeOf, V.isNilS, V.depthOk, depth1, V.ok1, V.isAgg, V.cells, isConst, Nat.reduceBEq, Nat.reduceEqDiff, ↓reduceIte, Nat.reduceLeDiff, Nat.reduceAdd, Nat.reduceMul, Nat.reduceSub, Nat.reduceLT, Int.reduceAdd, Int.reduceSub, Int.reduceMul, Int.reduceLT, Int.reduceLE, Int.reduceToNat, Int.reduceNeg, reduceIte, reduceCtorEq, SPx, SSx, appendTo, elemsOf, h0, hm]
       refine hK _ _ ?_
       clear hK K)
  )
  refine W_mid (fun s => s.dfs = [] ∧ s.m.out.length = 0 ∧ s.t.get 0 = .sl (nats (canL N)) ∧ s.t.get 4 = vn (vz N) ∧ s.m.gen 5 1 = 0) ?_ ?_
  · refine gP @Nat.zero_add ?_
    refine W_loopg (fun (k : Nat) s => s.dfs = [] ∧ s.m.out.length = 0 ∧ s.t.get 0 = .sl (nats (canL N)) ∧ s.t.get 4 = vn k ∧ s.m.gen 5 1 = 0 ∧ k ≤ vz N) (fun k => vz N - k) 0 ?_ ?_
    · refine ⟨hd, ?_, ?_, ?_, ?_, Nat.zero_le _⟩
      all_goals (try refine f0 (aI @h0 <|aI @hm <|@filled_nilS) ?_);all_goals try exact True.intro
      · rfl
    clear hd h0 ho hm
    rintro k s ⟨hd, ho, h0, h4, hg, hk⟩
    by_cases hkz : k < vz N
    · have hk2 : (k : Int) < (canL N).length := by omega
      have hg0 : (canL N)[k]? = some 0 := by
        rw [canL_core, List.getElem?_append_left (by rw [List.length_replicate]; exact hkz)]
        simp [hkz]
      refine gPC (aI @nats_length <|aI @nats_get? <|aI @h0 <|aI @h4 <|aI @ho <|aI @hk2 <|aI @hg0 <|@Int.natCast_zero) ?_
      refine cnd (fun h => ?_) (fun h => ?_)
      · refine gPC (aI @h0 <|aI @h4 <|@ho) ?_
        refine ⟨k + 1, ⟨hd, ?_, ?_, ?_, ?_, by omega⟩, by omega⟩
        all_goals (try refine f0 (aI @h0 <|aI @ho <|@hg) ?_);all_goals try exact True.intro
      · simp at h
    obtain rfl : k = vz N := by omega
    by_cases hkl : vz N < (canL N).length
    · have hk2 : ((vz N : Nat) : Int) < (canL N).length := by omega
      have hN0 : 0 < N := by
        rcases Nat.eq_zero_or_pos N with rfl | h'
        · rw [canL_zero] at hkl; simp at hkl
        · exact h'
      have hge : 60 ^ vz N ≤ N := by
        rcases Nat.lt_or_ge N (60 ^ vz N) with h' | h'
        · have := canL_length_le.2 h'; omega
        · exact h'
      have hg0 : (canL N)[vz N]? = some (dig N (vz N)) := by rw [canL_get?, if_pos hge]
      have hne : ¬ (((dig N (vz N) : Nat) : Int) = 0) := by have := vz_dig hN0; omega
      refine gPC (aI @nats_length <|aI @nats_get? <|aI @h0 <|aI @h4 <|aI @ho <|aI @hk2 <|aI @hg0 <|(beq_eq_false_iff_ne.2 hne)) ?_
      refine cnd (fun h => ?_) (fun h => ?_)
      · simp at h
      · refine gP @Nat.zero_add ?_
        refine ⟨hd, ?_, ?_, ?_, ?_⟩
        all_goals (try refine f0 (aI @h0 <|aI @h4 <|aI @ho <|@hg) ?_);all_goals try exact True.intro
    · have hk2 : ¬ (((vz N : Nat) : Int) < (canL N).length) := by omega
      refine gPC (aI @nats_length <|aI @nats_get? <|aI @h0 <|aI @h4 <|aI @ho <|@hk2) ?_
      refine cnd (fun h => ?_) (fun h => ?_)
      · simp at h
      · refine gP @Nat.zero_add ?_
        refine ⟨hd, ?_, ?_, ?_, ?_⟩
        all_goals (try refine f0 (aI @h0 <|aI @h4 <|aI @ho <|@hg) ?_);all_goals try exact True.intro
  clear hd h0 ho hm
  rintro s ⟨hd, ho, h0, h4, hg⟩
  refine gPS (aI @h0 <|aI @h4 <|aI @ho <|aI @hg <|@wr_i64) ?_
  refine W_loopg (fun (k : Nat) s => s.dfs = [] ∧ s.m.out.length = 0 ∧ s.t.get 0 = .sl (nats (canL N)) ∧ s.t.get 4 = vn (vz N) ∧ s.t.get 6 = vi ((canL N).length - 1 - k) ∧ Held s.m 5 1 (s.t.get 5) ((digB N).take k) ∧ k ≤ (digB N).length) (fun k => (digB N).length - k) 0 ?_ ?_
  · refine ⟨hd, ?_, ?_, ?_, ?_, ⟨1, 0, ?_, ?_, .inr ⟨rfl, rfl⟩⟩, Nat.zero_le _⟩
    all_goals (try refine f0 (aI @h0 <|aI @h4 <|aI @ho <|@hg) ?_);all_goals try exact True.intro
    · simp
    · simp
    · simp [nats]
  clear hd h0 ho hg h4
  rintro k s ⟨hd, ho, h0, h4, h6, ⟨g, ty, h5, r5, hty⟩, hk⟩
  have hlen : ((digB N).take k).length = k := by rw [List.length_take]; omega
  rw [hlen] at h5 hty
  refine gP (aI @h0 <|aI @h4 <|aI @h5 <|aI @h6 <|aI @r5 <|@ho) ?_
  refine cnd (fun h => ?_) (fun h => ?_)
  · have h := of_decide_eq_true h
    have hk : k < (digB N).length := by omega
    have hdk := digB_get N hk
    have hcg : (canL N)[(canL N).length - 1 - k]? = some (dig N ((canL N).length - 1 - k)) := by
      rw [canL_get?, if_pos]
      rcases Nat.lt_or_ge N (60 ^ ((canL N).length - 1 - k)) with h' | h'
      · have := canL_length_le.2 h'; omega
      · exact h'
    have hc : ((canL N).length - 1 - (k : Int)).toNat = (canL N).length - 1 - k := by omega
    have hc0 : (0 : Int) ≤ ((canL N).length : Int) - 1 - k := by omega
    have hnat : nats ((digB N).take k) ++ [vn (dig N ((canL N).length - 1 - k))] = nats ((digB N).take (k + 1)) := by
      rw [nats_snoc, List.take_add_one, hdk]; rfl
    have hcut : cut (nats ((digB N).take k)) 0 k = nats ((digB N).take k) := by
      conv => lhs; arg 3; rw [← hlen]
      exact cut_nats _
    refine gPS (aI @cut_one <|aI @hcut <|aI @hnat <|aI @h0 <|aI @h4 <|aI @h5 <|aI @h6 <|aI @r5 <|aI @ho <|aI @hty <|aI @hlen <|aI @nats_get? <|aI @hcg <|aI @hc <|aI @hc0 <|@wr_i64) ?_
    refine ⟨k + 1, ⟨hd, ?_, ?_, ?_, ?_, ⟨g + 1, 3, ?_, ?_, .inl rfl⟩, by omega⟩, by omega⟩
    all_goals (try refine fS (aI @h0 <|aI @h4 <|aI @h5 <|@ho) ?_);all_goals try exact True.intro
    · congr 1; omega
    · rw [List.length_take, Nat.min_eq_left (by omega)]
  · have h := of_decide_eq_false h
    obtain rfl : k = (digB N).length := by omega
    rw [List.take_length] at r5
    refine gP (aI @h4 <|aI @h5 <|@ho) ?_
    refine rPS hd (aI @Tryd.results83 <|aI @mv_rsr <|aI @mv2_rsr <|aI @r5 <|aI @h4 <|aI @h5 <|@ho) ?_
    try exact True.intro
end Go.Proofs.YtpocekfifokndaaDoor
namespace Go.Proofs.YtpocekfifokndaaDoor
open Go Go.Ev Go.Pl
set_option maxRecDepth 100000
set_option maxHeartbeats 4000000
def placeV (N : Nat) (sh : Int) : V := .agg [.sl (nats (digB N)), vi (if N = 0 then 0 else sh + vz N)]
abbrev goodP (N : Nat) (sh : Int) : Prop := N = 0 ∨ ((digB N).length ≤ 16 ∧ -64 ≤ sh + vz N ∧ sh + vz N ≤ 64)
theorem placeRes_at (M t : Nat) (sh : Int) (ht : 72 + sh = t) : placeRes (M * 60 ^ t) = if goodP M sh then .ret (placeV M sh) else .panic (.ifc 23 (vi 3)) := by
  unfold goodP placeV
  rcases Nat.eq_zero_or_pos M with rfl | h
  · rw [placeRes, Nat.zero_mul, if_pos rfl, if_pos (Or.inl rfl), if_pos rfl, digB_zero]; rfl
  · have h1 : M * 60 ^ t ≠ 0 := Nat.mul_ne_zero (by omega) (Nat.pos_iff_ne_zero.1 (pow_pos t))
    have h0 : ¬ M = 0 := by omega
    rw [placeRes, if_neg h1, digB_shift, vz_shift h, if_neg h0]
    have e : ((vz M + t : Nat) : Int) - 72 = sh + vz M := by omega
    rw [e]
    by_cases c : (digB M).length ≤ 16 ∧ -64 ≤ sh + vz M ∧ sh + vz M ≤ 64
    · have g1 : ¬ (16 < (digB M).length ∨ 64 < sh + (vz M : Int) ∨ sh + (vz M : Int) < -64) := by omega
      have g2 : M = 0 ∨ (digB M).length ≤ 16 ∧ -64 ≤ sh + (vz M : Int) ∧ sh + (vz M : Int) ≤ 64 := Or.inr c
      rw [if_neg g1, if_pos g2]
    · have g1 : 16 < (digB M).length ∨ 64 < sh + (vz M : Int) ∨ sh + (vz M : Int) < -64 := by omega
      have g2 : ¬ (M = 0 ∨ (digB M).length ≤ 16 ∧ -64 ≤ sh + (vz M : Int) ∧ sh + (vz M : Int) ≤ 64) := by omega
      rw [if_pos g1, if_neg g2]
theorem P109 (N : Nat) (sh : Int) (hl : (canL N).length < 1000) (h1 : -1000000 < sh) (h2 : sh < 1000000) : Ans X 109 [.sl (nats (canL N)), vi sh] (.ret (.tup [placeV N sh, .bool (decide (goodP N sh))])) := by
  refine call_of_X (fn := Tryd.f109) 2 Tryd.func109 rfl (by decide +kernel) rfl ?_ ?_ ?_ ?_
  · rfl
  · intro h; exact absurd h (by rw [sr109]; decide)
  · intro v hv; injection hv with hv; subst hv; rfl
  intro s hs hd ho
  have hm : s.m = ⟨.nil, []⟩ := by subst hs; rfl
  have h0 : s.t.get 0 = .sl (nats (canL N)) := by subst hs; rfl
  have h1' : s.t.get 1 = vi sh := by subst hs; rfl
  clear hs
  have q := P83 N hl
  have hz : N = 0 ↔ (digB N).length = 0 := by rw [List.length_eq_zero_iff]; exact digB_eq_nil.symm
  have hvz : vz N < 1000 := by have := canL_len_core N; omega
  unfold goodP placeV
  generalize digB N = D at *
  generalize vz N = v at *
  generalize canL N = L at *
  clear hl
  refine gPAS (aI @h0 <|aI @h1' <|aI @hm <|aI @co83 <|aI @sr83 <|aI @q.iffx <|@nats_length) ?_
  refine cnd (fun h => ?_) (fun h => ?_)
  · have h : N = 0 := hz.2 (by have h' := eq_of_beq h; omega)
    have hD : D = [] := List.length_eq_zero_iff.1 (hz.1 h)
    rw [if_pos h, decide_eq_true (.inl h), hD]
    refine gPAS @hm ?_
    refine rPAS hd (aI @Tryd.results109 <|@hm) ?_
    try exact True.intro
    rfl
  have h : ¬ N = 0 := fun e => by
    have := hz.1 e
    rw [this] at h; simp at h
  rw [if_neg h]
  have e1 : V.int .i64 (wr .i64 (sh + (v : Int))) = vi (sh + v) := by rw [wr_i64 (by omega) (by omega)]
  by_cases c1 : D.length ≤ 16
  · have c1' : (D.length : Int) ≤ 16 := by omega
    by_cases c2 : -64 ≤ sh + (v : Int)
    · have c2' : sh + (v : Int) ≥ -64 := c2
      by_cases c3 : sh + (v : Int) ≤ 64
      · have hT : (N = 0 ∨ D.length ≤ 16 ∧ -64 ≤ sh + (v : Int) ∧ sh + (v : Int) ≤ 64) := .inr ⟨c1, c2, c3⟩
        rw [decide_eq_true hT]
        clear hT c1 c2 hz
        refine gPAS (aI @h0 <|aI @h1' <|aI @hm <|aI @nats_length <|aI @rowsOf_aggl <|aI @ptrs_aggl <|aI @e1 <|aI @c1' <|aI @c2' <|@c3) ?_
        refine rPAS hd (aI @Tryd.results109 <|@hm) ?_
        try exact True.intro
      · have hT : ¬ (N = 0 ∨ D.length ≤ 16 ∧ -64 ≤ sh + (v : Int) ∧ sh + (v : Int) ≤ 64) := by omega
        rw [decide_eq_false hT]
        clear hT c1 c2 hz
        refine gPAS (aI @h0 <|aI @h1' <|aI @hm <|aI @nats_length <|aI @rowsOf_aggl <|aI @ptrs_aggl <|aI @e1 <|aI @c1' <|aI @c2' <|@c3) ?_
        refine rPAS hd (aI @Tryd.results109 <|@hm) ?_
        try exact True.intro
    · have hT : ¬ (N = 0 ∨ D.length ≤ 16 ∧ -64 ≤ sh + (v : Int) ∧ sh + (v : Int) ≤ 64) := by omega
      have c2' : ¬ sh + (v : Int) ≥ -64 := c2
      rw [decide_eq_false hT]
      clear hT c1 c2 hz
      refine gPAS (aI @h0 <|aI @h1' <|aI @hm <|aI @nats_length <|aI @rowsOf_aggl <|aI @ptrs_aggl <|aI @e1 <|aI @c1' <|@c2') ?_
      refine rPAS hd (aI @Tryd.results109 <|@hm) ?_
      try exact True.intro
  · have hT : ¬ (N = 0 ∨ D.length ≤ 16 ∧ -64 ≤ sh + (v : Int) ∧ sh + (v : Int) ≤ 64) := by omega
    have c1' : ¬ (D.length : Int) ≤ 16 := by omega
    rw [decide_eq_false hT]
    clear hT c1 hz
    refine gPAS (aI @h0 <|aI @h1' <|aI @hm <|aI @nats_length <|aI @rowsOf_aggl <|aI @ptrs_aggl <|aI @e1 <|@c1') ?_
    refine rPAS hd (aI @Tryd.results109 <|@hm) ?_
    try exact True.intro
theorem P48 (a : List Nat) (sh : Int) (hl : a.length < 1000000000000) : Ans X 48 [.agg [.sl (nats a), vi sh], .agg [.sl (nats a), vi sh]] (.ret (.bool true)) := by
  refine call_of_X (fn := Tryd.f48) 2 Tryd.func48 rfl (by decide +kernel) rfl ?_ ?_ ?_ ?_
  · rfl
  · exact fun _ => rfl
  · intro v hv; injection hv with hv; subst hv; rfl
  intro s hs hd ho
  have hm : s.m = ⟨.nil, []⟩ := by subst hs; rfl
  have h0 : s.t.get 0 = .agg [.sl (nats a), vi sh] := by subst hs; rfl
  have h1 : s.t.get 1 = .agg [.sl (nats a), vi sh] := by subst hs; rfl
  clear hs
  have q := Q25 a hl
  refine gPAS (aI @h0 <|aI @h1 <|aI @hm <|aI @co25 <|aI @sr25 <|@q.iffx) ?_
  refine rP hd @Tryd.results48 ?_
  try exact True.intro
end Go.Proofs.YtpocekfifokndaaDoor
namespace Go.Proofs.YtpocekfifokndaaDoor
open Go Go.Ev Go.Pl
set_option maxRecDepth 100000
set_option maxHeartbeats 4000000
theorem good0 {M : Nat} (h : M < 60 ^ 60) : goodP M 0 ↔ (digB M).length ≤ 16 := by
  unfold goodP
  rcases Nat.eq_zero_or_pos M with rfl | hp
  · rw [digB_zero]; simp
  · have := vz_lt hp h
    constructor
    · rintro (h | h)
      · omega
      · exact h.1
    · intro h'
      exact .inr ⟨h', by omega, by omega⟩
theorem wvOk (f : Nat → Nat) : elemOk (V.agg (wc f)) = true := by rw [elemOk, show (V.agg (wc f)).refs = false from wc_loose f]; rfl
def tabP (n : Nat) : Bool := decide (n ≤ 20) || n % 10 == 0
def tabN : Nat → List Nat
  | 0 => []
  | k + 1 => tabN k ++ if tabP (k + 1) = true then [k + 1] else []
def rowsV (N : Nat) (L : List Nat) : List V := L.map fun n => .sl (nats (digB (N * n)))
theorem rowsV_length (N : Nat) (L : List Nat) : (rowsV N L).length = L.length := by simp [rowsV]
theorem rowsV_snoc (N : Nat) (L : List Nat) (n : Nat) : rowsV N L ++ [.sl (nats (digB (N * n)))] = rowsV N (L ++ [n]) := by simp [rowsV]
theorem cut_rows (N : Nat) (L : List Nat) : cut (rowsV N L) 0 L.length = rowsV N L := by unfold cut; rw [List.drop_zero, List.take_of_length_le (by rw [rowsV_length]; exact Nat.le_refl _)]
theorem tabN_yes {k : Nat} (h : tabP (k + 1) = true) : tabN (k + 1) = tabN k ++ [k + 1] := by rw [tabN, if_pos h]
theorem tabN_no {k : Nat} (h : ¬ tabP (k + 1) = true) : tabN (k + 1) = tabN k := by rw [tabN, if_neg h, List.append_nil]
theorem tabN_len : ∀ k, (tabN k).length ≤ k
  | 0 => Nat.le_refl _
  | k + 1 => by
    have := tabN_len k
    rw [tabN, List.length_append]
    split
    · simp; omega
    · simp; omega
theorem tabN_mem : ∀ {k j n : Nat}, j ≤ k → n ∈ tabN j → n ∈ tabN k
  | 0, j, n, h, hn => by
    obtain rfl : j = 0 := by omega
    exact hn
  | k + 1, j, n, h, hn => by
    rcases Nat.lt_or_ge k j with h' | h'
    · obtain rfl : j = k + 1 := by omega
      exact hn
    · rw [tabN]; exact List.mem_append_left _ (tabN_mem h' hn)
def tabOk (N : Nat) : Bool := (tabN 50).all fun n => decide ((digB (N * n)).length ≤ 16)
theorem tabOk_no {N n : Nat} (hn : n ∈ tabN 50) (h : ¬ (digB (N * n)).length ≤ 16) : tabOk N = false := by
  rw [tabOk, Bool.eq_false_iff, ne_eq, List.all_eq_true]
  intro e
  exact h (of_decide_eq_true (e n hn))
theorem tabOk_yes {N : Nat} (h : ∀ n ∈ tabN 50, (digB (N * n)).length ≤ 16) : tabOk N = true := by
  rw [tabOk, List.all_eq_true]
  intro n hn
  exact decide_eq_true (h n hn)
def tabRes (N : Nat) : Res := if tabOk N = true then .ret (.sl (rowsV N (tabN 50))) else .panic (.ifc 23 (vi 3))
theorem P114 (l : List Nat) (hl : ∀ d ∈ l, d < 60) (hlen : l.length ≤ 16) (N : Nat) (hNe : numL l.reverse = N) (o1 oM : Go.Ev.Rows)
    (hA : (⟨oM, []⟩ : Mem).row ⟨0, 1, 0, 1⟩ = some ⟨1, 22, false, false, [.sl (nats l)]⟩) :
    AnsAt X 114 [.ptr ⟨0, 1, 0, 1⟩ 0 0] [o1, oM] (tabRes N) := by
  refine ⟨rfl, rfl, fun v hv => ?_, ?_⟩
  · unfold tabRes at hv
    split at hv
    · injection hv with hv; subst hv; rfl
    · cases hv
  refine runsAt_of (X := X) (fn := Tryd.f114) Tryd.func114 rfl ⟨by decide +kernel, Nat.le_of_ble_eq_true rfl⟩ ?_
  have hd : (enter [V.ptr ⟨0, 1, 0, 1⟩ 0 0] [o1, oM]).dfs = [] := rfl
  have h0 : (enter [V.ptr ⟨0, 1, 0, 1⟩ 0 0] [o1, oM]).t.get 0 = .ptr ⟨0, 1, 0, 1⟩ 0 0 := rfl
  have hm : (enter [V.ptr ⟨0, 1, 0, 1⟩ 0 0] [o1, oM]).m = ⟨.nil, [o1, oM]⟩ := rfl
  generalize enter [V.ptr ⟨0, 1, 0, 1⟩ 0 0] [o1, oM] = s at *
  have hA' : (⟨.nil, [o1, oM]⟩ : Mem).row ⟨0, 1, 0, 1⟩ = some ⟨1, 22, false, false, [.sl (nats l)]⟩ := by rw [row_outer _ _ _ _ (by simp), row_outer _ _ _ _ (by simp), hA]
  have hNb : N < 60 ^ 16 := by
    have := Go.Pl.num_lt (l := l.reverse) (fun d hd => hl d (List.mem_reverse.1 hd))
    rw [List.length_reverse, hNe] at this
    exact lt_pow_mono this hlen
  have q1 := P86 l 0 72 rfl hl (by omega)
  rw [hNe] at q1
  refine gPAW (aI @h0 <|aI @hm <|aI @hA' <|aI @co86 <|aI @sr86 <|aI @q1.iffx <|@wvOk) ?_
  refine W_loopg (fun (k : Nat) s => s.dfs = [] ∧ s.m.out = [o1, oM] ∧ s.t.get 3 = .fn 115 [wv (N * 60 ^ 72)] [] ∧ s.t.get 4 = vn (k + 1) ∧ HeldD s.m 2 2 1 22 (s.t.get 2) (rowsV N (tabN k)) ∧ k ≤ 50 ∧ ∀ n ∈ tabN k, (digB (N * n)).length ≤ 16) (fun k => 50 - k) 0 ?_ ?_
  · refine ⟨hd, ?_, ?_, ?_, ⟨1, 0, ?_, ?_, .inr ⟨rfl, rfl⟩⟩, Nat.zero_le _, fun n hn => by simp [tabN] at hn⟩
    all_goals (try refine fW @hm ?_);all_goals try exact True.intro
    all_goals rfl
  clear hd h0 hm hA' q1 hA
  rintro k s ⟨hd, ho, h3, h4, ⟨g, ty, h2, r2, hty⟩, hk, hall⟩
  rw [rowsV_length] at h2 hty
  refine gP @h4 ?_
  refine cnd (fun h => ?_) (fun h => ?_)
  · have hk50 : k < 50 := by have := of_decide_eq_true h; omega
    clear h
    have q1 := P115 (N * 60 ^ 72) (k + 1) (by
      calc N * 60 ^ 72 < 60 ^ 16 * 60 ^ 72 := Nat.mul_lt_mul_of_pos_right hNb (by decide)
        _ ≤ 60 ^ 168 := by decide) (by omega)
    have hM : N * (k + 1) < 60 ^ 17 := by
      calc N * (k + 1) < 60 ^ 16 * 60 := Nat.mul_lt_mul'' hNb (by omega)
        _ = 60 ^ 17 := rfl
    have hM2 : N * 60 ^ 72 * (k + 1) < 60 ^ 168 := by
      rw [Nat.mul_right_comm]
      calc N * (k + 1) * 60 ^ 72 < 60 ^ 17 * 60 ^ 72 := Nat.mul_lt_mul_of_pos_right hM (by decide)
        _ ≤ 60 ^ 168 := by decide
    rw [if_pos hM2, Nat.mul_right_comm] at q1
    rw [Nat.mul_right_comm] at hM2
    have q2 := P81 _ hM2
    rw [placeRes_at (N * (k + 1)) 72 0 rfl] at q2
    have hgd := good0 (M := N * (k + 1)) (lt_pow_mono hM (by decide))
    have m10 : Int.tmod ((k + 1 : Nat) : Int) 10 = (((k + 1) % 10 : Nat) : Int) := rfl
    have hcnt := tabN_len k
    have e1 : V.int .i64 (wr .i64 (((k + 1 : Nat) : Int) + 1)) = vn (k + 1 + 1) := by rw [wr_i64 (by omega) (by omega)]; rfl
    by_cases c : tabP (k + 1) = true
    · have hmem : k + 1 ∈ tabN 50 := tabN_mem (show k + 1 ≤ 50 by omega) (by rw [tabN_yes c]; simp)
      have hcc : (decide (((k + 1 : Nat) : Int) ≤ 20) = true) ∨ (decide (((k + 1 : Nat) : Int) ≤ 20) = false ∧ ((((k + 1) % 10 : Nat) : Int) == 0) = true) := by
        unfold tabP at c
        rcases Nat.lt_or_ge 20 (k + 1) with h | h
        · right
          rw [decide_eq_false (by omega)] at c
          have : (k + 1) % 10 = 0 := by simpa using c
          exact ⟨decide_eq_false (by omega), by rw [this]; rfl⟩
        · left; exact decide_eq_true (by omega)
      by_cases c2 : goodP (N * (k + 1)) 0
      · rw [if_pos c2] at q2
        unfold placeV at q2
        have hall' : ∀ n ∈ tabN (k + 1), (digB (N * n)).length ≤ 16 := by
          rw [tabN_yes c]
          intro n hn
          rcases List.mem_append.1 hn with h | h
          · exact hall n h
          · obtain rfl : n = k + 1 := by simpa using h
            exact hgd.1 c2
        rcases hcc with c3 | ⟨c3, c4⟩
        · refine gPASWC (aI @h2 <|aI @h3 <|aI @h4 <|aI @ho <|aI @r2 <|aI @hty <|aI @c3 <|aI @m10 <|aI @co115 <|aI @sr115 <|aI @co81 <|aI @sr81 <|aI @q1.iffx <|aI @q2.iffx <|aI @rowsV_length <|aI @cut_rows <|@rowsV_snoc) ?_
          refine cnd (fun h => ?_) (fun h => ?_)
          · refine gPASWC (aI @h2 <|aI @h3 <|aI @h4 <|aI @ho <|aI @r2 <|aI @hty <|aI @c3 <|aI @m10 <|aI @co115 <|aI @sr115 <|aI @co81 <|aI @sr81 <|aI @q1.iffx <|aI @q2.iffx <|aI @rowsV_length <|aI @cut_rows <|aI @rowsV_snoc <|@e1) ?_
            refine ⟨k + 1, ⟨hd, ?_, ?_, ?_, ⟨g + 1, 22, ?_, ?_, .inl rfl⟩, by omega, hall'⟩, by omega⟩
            all_goals (try refine fSW (aI @h2 <|aI @h3 <|aI @h4 <|aI @r2 <|aI @ho <|aI @rowsV_length <|(tabN_yes c)) ?_);all_goals try exact True.intro
            simp [Mem.new, Mem.set, ho]
          · simp at h
        · refine gPASWC (aI @h2 <|aI @h3 <|aI @h4 <|aI @ho <|aI @r2 <|aI @hty <|aI @c3 <|aI @c4 <|aI @m10 <|aI @co115 <|aI @sr115 <|aI @co81 <|aI @sr81 <|aI @q1.iffx <|aI @q2.iffx <|aI @rowsV_length <|aI @cut_rows <|@rowsV_snoc) ?_
          refine cnd (fun h => ?_) (fun h => ?_)
          · refine gPASWC (aI @h2 <|aI @h3 <|aI @h4 <|aI @ho <|aI @r2 <|aI @hty <|aI @c3 <|aI @c4 <|aI @m10 <|aI @co115 <|aI @sr115 <|aI @co81 <|aI @sr81 <|aI @q1.iffx <|aI @q2.iffx <|aI @rowsV_length <|aI @cut_rows <|aI @rowsV_snoc <|@e1) ?_
            refine ⟨k + 1, ⟨hd, ?_, ?_, ?_, ⟨g + 1, 22, ?_, ?_, .inl rfl⟩, by omega, hall'⟩, by omega⟩
            all_goals (try refine fSW (aI @h2 <|aI @h3 <|aI @h4 <|aI @r2 <|aI @ho <|aI @rowsV_length <|(tabN_yes c)) ?_);all_goals try exact True.intro
            simp [Mem.new, Mem.set, ho]
          · simp at h
      · rw [if_neg c2] at q2
        have hno := tabOk_no hmem (fun e => c2 (hgd.2 e))
        rw [tabRes, if_neg (by rw [hno]; decide)]
        rcases hcc with c3 | ⟨c3, c4⟩
        · refine gPASWC (aI @h2 <|aI @h3 <|aI @h4 <|aI @ho <|aI @r2 <|aI @hty <|aI @c3 <|aI @m10 <|aI @co115 <|aI @sr115 <|aI @co81 <|aI @sr81 <|aI @q1.iffx <|aI @q2.panicsx <|aI @rowsV_length <|aI @cut_rows <|@rowsV_snoc) ?_
          refine cnd (fun h => ?_) (fun h => ?_)
          · refine gPASWC (aI @h2 <|aI @h3 <|aI @h4 <|aI @ho <|aI @r2 <|aI @hty <|aI @c3 <|aI @m10 <|aI @co115 <|aI @sr115 <|aI @co81 <|aI @sr81 <|aI @q1.iffx <|aI @q2.panicsx <|aI @rowsV_length <|aI @cut_rows <|aI @rowsV_snoc <|@e1) ?_
            refine fin_panic hd rfl ?_
            simp [Mem.new, Mem.set, ho]
          · simp at h
        · refine gPASWC (aI @h2 <|aI @h3 <|aI @h4 <|aI @ho <|aI @r2 <|aI @hty <|aI @c3 <|aI @c4 <|aI @m10 <|aI @co115 <|aI @sr115 <|aI @co81 <|aI @sr81 <|aI @q1.iffx <|aI @q2.panicsx <|aI @rowsV_length <|aI @cut_rows <|@rowsV_snoc) ?_
          refine cnd (fun h => ?_) (fun h => ?_)
          · refine gPASWC (aI @h2 <|aI @h3 <|aI @h4 <|aI @ho <|aI @r2 <|aI @hty <|aI @c3 <|aI @c4 <|aI @m10 <|aI @co115 <|aI @sr115 <|aI @co81 <|aI @sr81 <|aI @q1.iffx <|aI @q2.panicsx <|aI @rowsV_length <|aI @cut_rows <|aI @rowsV_snoc <|@e1) ?_
            refine fin_panic hd rfl ?_
            simp [Mem.new, Mem.set, ho]
          · simp at h
    · have hcc : decide (((k + 1 : Nat) : Int) ≤ 20) = false ∧ ((((k + 1) % 10 : Nat) : Int) == 0) = false := by
        unfold tabP at c
        simp only [Bool.or_eq_true, decide_eq_true_eq, beq_iff_eq, not_or] at c
        exact ⟨decide_eq_false (by omega), by rw [beq_eq_false_iff_ne]; omega⟩
      obtain ⟨c3, c4⟩ := hcc
      refine gPC (aI @h4 <|aI @c3 <|aI @c4 <|@m10) ?_
      refine cnd (fun h => ?_) (fun h => ?_)
      · simp at h
      refine gP (aI @h4 <|@e1) ?_
      refine ⟨k + 1, ⟨hd, ?_, ?_, ?_, ⟨g, ty, ?_, ?_, ?_⟩, by omega, ?_⟩, by omega⟩
      all_goals (try refine f0 (aI @h2 <|aI @h3 <|aI @h4 <|aI @r2 <|aI @ho <|@rowsV_length) ?_);all_goals try exact True.intro
      all_goals (try rw [tabN_no c])
      · exact hty
      · exact hall
  · have hk50 : k = 50 := by have := of_decide_eq_false h; omega
    subst hk50
    have hok := tabOk_yes hall
    rw [tabRes, if_pos hok]
    clear h
    refine gPAS (aI @h2 <|aI @r2 <|@ho) ?_
    refine fin_ret (X := X) (fn := Tryd.f114) (vs := [.rs ⟨2, 2, 1, g⟩ ty 0 (tabN 50).length]) hd ?_ ?_ ?_
    · simp (maxSteps := 2000000) (disch := omega) only [SA, ofValue, ofCell, bin, intBin, un, idx, Go.Ev.builtin, calleeOf, V.isNilS, V.depthOk, depth1, V.ok1, V.isAgg, V.cells, isConst, Nat.reduceBEq, Nat.reduceEqDiff, ↓reduceIte, Nat.reduceLeDiff, Nat.reduceAdd, Nat.reduceMul, Nat.reduceSub, Nat.reduceLT, Int.reduceAdd, Int.reduceSub, Int.reduceMul, Int.reduceLT, Int.reduceLE, Int.reduceToNat, Int.reduceNeg, reduceIte, reduceCtorEq, SPx, Tryd.results114, resVars, resVar]
    · simp (maxSteps := 2000000) (disch := omega) only [SA, ofValue, ofCell, bin, intBin, un, idx, Go.Ev.builtin, calleeOf, V.isNilS, V.depthOk, depth1, V.ok1, V.isAgg, V.cells, isConst, Nat.reduceBEq, Nat.reduceEqDiff, ↓reduceIte, Nat.reduceLeDiff, Nat.reduceAdd, Nat.reduceMul, Nat.reduceSub, Nat.reduceLT, Int.reduceAdd, Int.reduceSub, Int.reduceMul, Int.reduceLT, Int.reduceLE, Int.reduceToNat, Int.reduceNeg, reduceIte, reduceCtorEq, SPx, SAx, resOf, X_own, r2, rowsV_length, cut_rows]
    · refine (frzR_own (fun r ty off len hm => ?_)).trans ho
      simp [resOf, leaves, leaves2] at hm
      rw [hm.1, ho]; rfl
def tabS (a : List Int) : List Nat × Int := if chk a ≠ 0 then ([], chk a) else if tabOk (numI a) = true then (tabN 50, 0) else ([], 3)
theorem P49 (a : List Int) : Ans X 49 [.sl (ints a)] (.ret (.tup [.sl (rowsV (numI a) (tabS a).1), vi (tabS a).2])) := by
  refine call_of_X (fn := Tryd.f49) 1 Tryd.func49 rfl (by decide +kernel) rfl ?_ ?_ ?_ ?_
  · rfl
  · intro h; exact absurd h (by rw [sr49]; decide)
  · intro v hv; injection hv with hv; subst hv; rfl
  intro s hs hd ho
  have hm : s.m = ⟨.nil, []⟩ := by subst hs; rfl
  have h0 : s.t.get 0 = .sl (ints a) := by subst hs; rfl
  clear hs
  have key : ∀ (m : Mem) (dst : Nat) (K KP : V → Mem → Prop), m.out = [] → m.row ⟨0, 1, 0, 1⟩ = some ⟨1, 22, false, false, [.sl (ints a)]⟩ →
      (CallQ X 113 [vi (chk a), .fn 114 [] [.ptr ⟨0, 1, 0, 1⟩ 0 0]] m dst K KP ↔ K (.tup [.sl (rowsV (numI a) (tabS a).1), vi (tabS a).2]) m) := by
    rintro ⟨own, out⟩ dst K KP ho r1
    dsimp only at ho
    subst ho
    by_cases hc : chk a = 0
    · obtain ⟨b1, b2, b3, b4, _⟩ := chk_ok hc
      rw [b1] at r1
      rw [hc]
      have q := fun o1 => P114 (natsOf a) b2 (by omega) (numI a) rfl o1 own r1
      by_cases c : tabOk (numI a) = true
      · rw [tabRes, if_pos c] at q
        refine AnsAt.iff (m := ⟨own, []⟩) (M113 114 _ own _ rfl co114 sr114 q _ (.inl ⟨_, rfl, ?_⟩))
        rw [tabS, if_neg (fun e => e hc), if_pos c]
      · rw [tabRes, if_neg c] at q
        refine AnsAt.iff (m := ⟨own, []⟩) (M113 114 _ own _ rfl co114 sr114 q _ (.inr ⟨3, rfl, ?_⟩))
        rw [tabS, if_neg (fun e => e hc), if_neg c]; rfl
    · refine AnsAt.iff (m := ⟨own, []⟩) ?_
      have := M113e (chk a) hc 114 [.ptr ⟨0, 1, 0, 1⟩ 0 0] own rfl
      rw [tabS, if_pos hc]; exact this
  refine gPA (aI @h0 <|@hm) ?_
  with_reducible refine W_region_k ?_
  intro K hK
  simp (maxSteps := 2000000) (disch := omega) only [SA, ofValue, ofCell, bin, intBin, un, idx, Go.Ev.builtin, calleeOf, V.isNilS, V.depthOk, depth1, V.ok1, V.isAgg, V.cells, isConst, Nat.reduceBEq, Nat.reduceEqDiff, ↓reduceIte, Nat.reduceLeDiff, Nat.reduceAdd, Nat.reduceMul, Nat.reduceSub, Nat.reduceLT, Int.reduceAdd, Int.reduceSub, Int.reduceMul, Int.reduceLT, Int.reduceLE, Int.reduceToNat, Int.reduceNeg, reduceIte, reduceCtorEq, SPx, SAx, hm, co28, sr28, (P28 a).iff, co113, sr113]
  rw [key _ _ _ _ rfl (by simp [Mem.row_new, Mem.row_setW, Mem.new_out, Mem.gen_new, Mem.gen_nil])]
  simp (maxSteps := 2000000) (disch := omega) only [SA, ofValue, ofCell, bin, intBin, un, idx, Go.Ev.builtin, calleeOf, V.isNilS, V.depthOk, depth1, V.ok1, V.isAgg, V.cells, isConst, Nat.reduceBEq, Nat.reduceEqDiff, ↓reduceIte, Nat.reduceLeDiff, Nat.reduceAdd, Nat.reduceMul, Nat.reduceSub, Nat.reduceLT, Int.reduceAdd, Int.reduceSub, Int.reduceMul, Int.reduceLT, Int.reduceLE, Int.reduceToNat, Int.reduceNeg, reduceIte, reduceCtorEq, SPx, SAx]
  refine hK _ _ ?_
  clear hK K
  refine gP @Nat.zero_add ?_
  refine rP hd @Tryd.results49 ?_
  try exact True.intro
end Go.Proofs.YtpocekfifokndaaDoor
namespace Go.Proofs.YtpocekfifokndaaDoor
open Go Go.Ev Go.Pl
set_option maxRecDepth 100000
set_option maxHeartbeats 4000000
def partsN (d : Nat) : List Nat := if 20 < d then [d / 10 * 10, d % 10] else [d]
theorem rep22 (v : V) : List.replicate 2 v = [v, v] := rfl
def selP (h n : Nat) : Bool := decide (0 < n) && decide (0 < h)
def byE (h : Nat) : List Nat → List (Nat × Nat)
  | [] => []
  | d :: ds => ((partsN d).filter (selP h)).map (fun n => (n, ds.length)) ++ byE h ds
def okP (N : Nat) (p : Nat × Nat) : Bool := decide (goodP (N * p.1) (p.2 : Int))
def plV (N : Nat) (L : List (Nat × Nat)) : List V := L.map fun p => placeV (N * p.1) (p.2 : Int)
theorem plV_length (N : Nat) (L : List (Nat × Nat)) : (plV N L).length = L.length := by simp [plV]
theorem plV_snoc (N : Nat) (L : List (Nat × Nat)) (n sh : Nat) : plV N L ++ [.agg [.sl (nats (digB (N * n))), vi (if N * n = 0 then 0 else (sh : Int) + vz (N * n))]] = plV N (L ++ [(n, sh)]) := by simp [plV, placeV]
theorem cut_pl (N : Nat) (L : List (Nat × Nat)) : cut (plV N L) 0 L.length = plV N L := by unfold cut; rw [List.drop_zero, List.take_of_length_le (by rw [plV_length]; exact Nat.le_refl _)]
def byRes (N h : Nat) (b : List Nat) : Res := if (byE h b).all (okP N) = true then .ret (.sl (plV N (byE h b))) else .panic (.ifc 23 (vi 3))
theorem byE_zero : ∀ b, byE 0 b = []
  | [] => rfl
  | d :: ds => by
    rw [byE, byE_zero ds, List.append_nil, List.map_eq_nil_iff, List.filter_eq_nil_iff]
    intro n _
    simp [selP]
theorem partsN_len (d : Nat) : (partsN d).length ≤ 2 := by unfold partsN; split <;> simp
theorem partsN_lt {d n : Nat} (hd : d < 60) (h : n ∈ partsN d) : n < 60 := by
  unfold partsN at h
  split at h
  · simp at h; omega
  · simp at h; omega
theorem filter_take_succ {l : List Nat} {j n : Nat} (p : Nat → Bool) (h : l[j]? = some n) : (l.take (j + 1)).filter p = (l.take j).filter p ++ if p n = true then [n] else [] := by
  rw [List.take_add_one, h, List.filter_append]
  congr 1
  by_cases c : p n = true
  · simp [c]
  · simp [c]
theorem P117 (lb lh : List Nat) (hb : ∀ d ∈ lb, d < 60) (hbl : lb.length ≤ 16) (hh : ∀ d ∈ lh, d < 60) (hhl : lh.length ≤ 16) (N : Nat) (hNe : numL lh.reverse = N) (o1 oM : Go.Ev.Rows)
    (hA : (⟨oM, []⟩ : Mem).row ⟨0, 3, 0, 1⟩ = some ⟨1, 22, false, false, [.sl (nats lb)]⟩) (hB : (⟨oM, []⟩ : Mem).row ⟨0, 2, 0, 1⟩ = some ⟨1, 22, false, false, [.sl (nats lh)]⟩) :
    AnsAt X 117 [.ptr ⟨0, 3, 0, 1⟩ 0 0, .ptr ⟨0, 2, 0, 1⟩ 0 0] [o1, oM] (byRes N lh.length lb) := by
  refine ⟨rfl, rfl, fun v hv => ?_, ?_⟩
  · unfold byRes at hv
    split at hv
    · injection hv with hv; subst hv; rfl
    · cases hv
  refine runsAt_of (X := X) (fn := Tryd.f117) Tryd.func117 rfl ⟨by decide +kernel, Nat.le_of_ble_eq_true rfl⟩ ?_
  have hd : (enter [V.ptr ⟨0, 3, 0, 1⟩ 0 0, V.ptr ⟨0, 2, 0, 1⟩ 0 0] [o1, oM]).dfs = [] := rfl
  have h0 : (enter [V.ptr ⟨0, 3, 0, 1⟩ 0 0, V.ptr ⟨0, 2, 0, 1⟩ 0 0] [o1, oM]).t.get 0 = .ptr ⟨0, 3, 0, 1⟩ 0 0 := rfl
  have h1 : (enter [V.ptr ⟨0, 3, 0, 1⟩ 0 0, V.ptr ⟨0, 2, 0, 1⟩ 0 0] [o1, oM]).t.get 1 = .ptr ⟨0, 2, 0, 1⟩ 0 0 := rfl
  have hm : (enter [V.ptr ⟨0, 3, 0, 1⟩ 0 0, V.ptr ⟨0, 2, 0, 1⟩ 0 0] [o1, oM]).m = ⟨.nil, [o1, oM]⟩ := rfl
  generalize enter [V.ptr ⟨0, 3, 0, 1⟩ 0 0, V.ptr ⟨0, 2, 0, 1⟩ 0 0] [o1, oM] = s at *
  have hA' : (⟨.nil, [o1, oM]⟩ : Mem).row ⟨0, 3, 0, 1⟩ = some ⟨1, 22, false, false, [.sl (nats lb)]⟩ := by rw [row_outer _ _ _ _ (by simp), row_outer _ _ _ _ (by simp), hA]
  have hB' : (⟨.nil, [o1, oM]⟩ : Mem).row ⟨0, 2, 0, 1⟩ = some ⟨1, 22, false, false, [.sl (nats lh)]⟩ := by rw [row_outer _ _ _ _ (by simp), row_outer _ _ _ _ (by simp), hB]
  have hNb : N < 60 ^ 16 := by
    have := Go.Pl.num_lt (l := lh.reverse) (fun d hd => hh d (List.mem_reverse.1 hd))
    rw [List.length_reverse, hNe] at this
    exact lt_pow_mono this hhl
  refine gPAS (aI @h0 <|aI @h1 <|aI @hm <|aI @hA' <|@nats_length) ?_
  refine W_loopg (fun (x : Nat × List (Nat × Nat)) s => s.dfs = [] ∧ s.m.out = [o1, oM] ∧ s.t.get 0 = .ptr ⟨0, 3, 0, 1⟩ 0 0 ∧ s.t.get 1 = .ptr ⟨0, 2, 0, 1⟩ 0 0 ∧ s.t.get 10 = .sl (nats lb) ∧ s.t.get 11 = vn lb.length ∧ s.t.get 12 = vn x.1 ∧
    s.m.row ⟨0, 3, 0, 1⟩ = some ⟨1, 22, false, false, [.sl (nats lb)]⟩ ∧ s.m.row ⟨0, 2, 0, 1⟩ = some ⟨1, 22, false, false, [.sl (nats lh)]⟩ ∧ HeldD s.m 2 3 1 54 (s.t.get 3) (plV N x.2) ∧
    x.1 ≤ lb.length ∧ x.2.length ≤ 2 * x.1 ∧ x.2.all (okP N) = true ∧ byE lh.length lb = x.2 ++ byE lh.length (lb.drop x.1)) (fun x => lb.length - x.1) (0, []) ?_ ?_
  · refine ⟨hd, ?_, ?_, ?_, ?_, ?_, ?_, ?_, ?_, ⟨1, 0, ?_, ?_, .inr ⟨rfl, rfl⟩⟩, Nat.zero_le _, Nat.zero_le _, rfl, rfl⟩
    all_goals (try refine fS (aI @h0 <|aI @h1 <|aI @hm <|aI @hA' <|@hB') ?_);all_goals try exact True.intro
    all_goals rfl
  clear hd h0 h1 hm hA' hB' hA hB
  rintro ⟨i, acc⟩ s ⟨hd, ho, h0, h1, h10, h11, h12, rA, rB, ⟨g, ty, h3, r3, hty⟩, hi, hal, hok, hby⟩
  dsimp only at h12 h3 r3 hty hi hal hok hby
  rw [plV_length] at h3 hty
  refine gP (aI @h11 <|@h12) ?_
  refine cnd (fun h => ?_) (fun h => ?_)
  · have hi' : i < lb.length := by have := of_decide_eq_true h; omega
    clear h
    obtain ⟨d, hdi⟩ : ∃ d, lb[i]? = some d := ⟨lb[i], by simp⟩
    have hd60 := hb d (List.mem_of_getElem? hdi)
    have hdrop : lb.drop i = d :: lb.drop (i + 1) := by
      rw [List.drop_eq_getElem_cons hi']
      congr 1
      rw [List.getElem?_eq_getElem hi'] at hdi
      exact Option.some.inj hdi
    rw [hdrop, byE, List.length_drop] at hby
    generalize hsh : lb.length - (i + 1) = sh at hby
    have hsh16 : sh ≤ 16 := by omega
    have q86 := P86 lh (sh : Int) (72 + sh) (by omega) hh (by omega)
    rw [hNe] at q86
    have es : V.int .i64 (wr .i64 (wr .i64 ((lb.length : Int) - 1) - (i : Int))) = vi (sh : Int) := by
      rw [wr_i64 (n := (lb.length : Int) - 1) (by omega) (by omega), wr_i64 (by omega) (by omega)]; congr 1; omega
    have hii : (i : Int) < (lb.length : Int) := by omega
    have hi0 : (0 : Int) ≤ (i : Int) := by omega
    have e1 : V.int .i64 (wr .i64 ((i : Int) + 1)) = vn (i + 1) := by rw [wr_i64 (by omega) (by omega)]; rfl
    refine gPASW (aI @h0 <|aI @h1 <|aI @h3 <|aI @h10 <|aI @h11 <|aI @h12 <|aI @rA <|aI @rB <|aI @r3 <|aI @ho <|aI @nats_get? <|aI @hdi <|aI @nats_length <|aI @hii <|aI @hi0 <|aI @es <|aI @co86 <|aI @sr86 <|aI @q86.iffx <|@wvOk) ?_
    refine W_mid (fun s' => s'.dfs = [] ∧ s'.m.out = [o1, oM] ∧ s'.t.get 0 = .ptr ⟨0, 3, 0, 1⟩ 0 0 ∧ s'.t.get 1 = .ptr ⟨0, 2, 0, 1⟩ 0 0 ∧ s'.t.get 10 = .sl (nats lb) ∧ s'.t.get 11 = vn lb.length ∧ s'.t.get 12 = vn i ∧
      s'.t.get 3 = .rs ⟨2, 3, 1, g⟩ ty 0 acc.length ∧ s'.t.get 6 = .fn 115 [wv (N * 60 ^ (72 + sh))] [] ∧ s'.m.row ⟨0, 3, 0, 1⟩ = some ⟨1, 22, false, false, [.sl (nats lb)]⟩ ∧ s'.m.row ⟨0, 2, 0, 1⟩ = some ⟨1, 22, false, false, [.sl (nats lh)]⟩ ∧
      s'.m.row ⟨2, 3, 1, g⟩ = some ⟨g, ty, true, false, plV N acc⟩ ∧ ∃ sl g', (sl = 26 ∨ sl = 34) ∧ s'.t.get 7 = .rs ⟨2, sl, 0, g'⟩ 3 0 (partsN d).length ∧ s'.m.row ⟨2, sl, 0, g'⟩ = some ⟨g', 3, true, false, nats (partsN d)⟩) ?_ ?_
    · by_cases c : 20 < d
      · have hp : partsN d = [d / 10 * 10, d % 10] := by rw [partsN, if_pos c]
        rw [hp]
        have g1 : V.int .i64 (wr .i64 (wr .i64 (Int.tdiv (d : Int) 10) * 10)) = vn (d / 10 * 10) := by
          rw [show Int.tdiv (d : Int) 10 = ((d / 10 : Nat) : Int) from rfl, wr_nat (by omega), show ((d / 10 : Nat) : Int) * 10 = ((d / 10 * 10 : Nat) : Int) from rfl, wr_nat (by omega)]
        have g2 : V.int .i64 (Int.tmod (d : Int) 10) = vn (d % 10) := rfl
        have c' : (d : Int) > 20 := by omega
        refine cnd (fun h => ?_) (fun h => ?_)
        · refine gPASWC (aI @h0 <|aI @h1 <|aI @h3 <|aI @h10 <|aI @h11 <|aI @h12 <|aI @rA <|aI @rB <|aI @r3 <|aI @ho <|aI @g1 <|aI @g2 <|@rep22) ?_
          refine ⟨hd, ?_, ?_, ?_, ?_, ?_, ?_, ?_, ?_, ?_, ?_, ?_, 34, s.m.gen 34 0 + 1, .inr rfl, ?_, ?_⟩
          all_goals (try refine fSW (aI @h0 <|aI @h1 <|aI @h3 <|aI @h10 <|aI @h11 <|aI @h12 <|aI @rA <|aI @rB <|aI @r3 <|@ho) ?_);all_goals try exact True.intro
          all_goals first | rfl | simp [Mem.new, Mem.set, ho]
        · simp at h; omega
      · have hp : partsN d = [d] := by rw [partsN, if_neg c]
        rw [hp]
        refine cnd (fun h => ?_) (fun h => ?_)
        · simp at h; omega
        · refine gP @Nat.zero_add ?_
          refine ⟨hd, ?_, ?_, ?_, ?_, ?_, ?_, ?_, ?_, ?_, ?_, ?_, 26, s.m.gen 26 0 + 1, .inl rfl, ?_, ?_⟩
          all_goals (try refine fSW (aI @h0 <|aI @h1 <|aI @h3 <|aI @h10 <|aI @h11 <|aI @h12 <|aI @rA <|aI @rB <|aI @r3 <|@ho) ?_);all_goals try exact True.intro
          all_goals first | rfl | simp [Mem.new, Mem.set, ho]
    clear hd ho h0 h1 h3 h10 h11 h12 rA rB r3 q86 es
    rintro s ⟨hd, ho, h0, h1, h10, h11, h12, h3, h6, rA, rB, r3, sl, g', hsl, h7, r7⟩
    have hp60 : ∀ n ∈ partsN d, n < 60 := fun n hn => partsN_lt hd60 hn
    have hp2 := partsN_len d
    generalize partsN d = P at *
    have n3 : ¬ sl = 3 := by omega
    have n53 : ¬ sl = 53 := by omega
    clear hsl
    refine gP @h7 ?_
    refine W_loopg (fun (x : Nat × List (Nat × Nat)) s => s.dfs = [] ∧ s.m.out = [o1, oM] ∧ s.t.get 0 = .ptr ⟨0, 3, 0, 1⟩ 0 0 ∧ s.t.get 1 = .ptr ⟨0, 2, 0, 1⟩ 0 0 ∧ s.t.get 10 = .sl (nats lb) ∧ s.t.get 11 = vn lb.length ∧ s.t.get 12 = vn i ∧
      s.t.get 6 = .fn 115 [wv (N * 60 ^ (72 + sh))] [] ∧ s.t.get 35 = .rs ⟨2, sl, 0, g'⟩ 3 0 P.length ∧ s.t.get 36 = vn P.length ∧ s.t.get 37 = vn x.1 ∧
      s.m.row ⟨0, 3, 0, 1⟩ = some ⟨1, 22, false, false, [.sl (nats lb)]⟩ ∧ s.m.row ⟨0, 2, 0, 1⟩ = some ⟨1, 22, false, false, [.sl (nats lh)]⟩ ∧ s.m.row ⟨2, sl, 0, g'⟩ = some ⟨g', 3, true, false, nats P⟩ ∧ HeldD s.m 2 3 1 54 (s.t.get 3) (plV N x.2) ∧
      x.1 ≤ P.length ∧ x.2.length ≤ 2 * i + x.1 ∧ x.2.all (okP N) = true ∧ x.2 = acc ++ ((P.take x.1).filter (selP lh.length)).map (fun n => (n, sh))) (fun x => P.length - x.1) (0, acc) ?_ ?_
    · refine ⟨hd, ?_, ?_, ?_, ?_, ?_, ?_, ?_, ?_, ?_, ?_, ?_, ?_, ?_, ⟨g, ty, ?_, ?_, ?_⟩, Nat.zero_le _, hal, hok, by simp⟩
      all_goals (try refine fSW (aI @h0 <|aI @h1 <|aI @h3 <|aI @h6 <|aI @h10 <|aI @h11 <|aI @h12 <|aI @rA <|aI @rB <|aI @r3 <|aI @r7 <|aI @ho <|@plV_length) ?_);all_goals try exact True.intro
      all_goals first | rfl | exact hty
    clear hd ho h0 h1 h3 h6 h7 h10 h11 h12 rA rB r3 r7 hty
    rintro ⟨j, acc'⟩ s ⟨hd, ho, h0, h1, h10, h11, h12, h6, h35, h36, h37, rA, rB, r7, ⟨g2, ty2, h3, r3, hty⟩, hj, hal', hok', hacc⟩
    dsimp only at h37 h3 r3 hty hj hal' hok' hacc
    rw [plV_length] at h3 hty
    refine gP (aI @h36 <|@h37) ?_
    refine cnd (fun h => ?_) (fun h => ?_)
    · have hj' : j < P.length := by have := of_decide_eq_true h; omega
      clear h
      obtain ⟨n, hn⟩ : ∃ n, P[j]? = some n := ⟨P[j], by simp⟩
      have hn60 := hp60 n (List.mem_of_getElem? hn)
      have hfs := filter_take_succ (selP lh.length) hn
      have hjj : (j : Int) < (P.length : Int) := by omega
      have hj0 : (0 : Int) ≤ (j : Int) := by omega
      have f1 : V.int .i64 (wr .i64 ((j : Int) + 1)) = vn (j + 1) := by rw [wr_i64 (by omega) (by omega)]; rfl
      by_cases c : selP lh.length n = true
      · have c0 := c
        unfold selP at c0
        simp only [Bool.and_eq_true, decide_eq_true_eq] at c0
        have c1 : (n : Int) > 0 := by omega
        have c2 : (lh.length : Int) > 0 := by omega
        rw [if_pos c] at hfs
        have hpw : (60 : Nat) ^ (72 + sh) ≤ 60 ^ 88 := Nat.pow_le_pow_right (by decide) (by omega)
        have hbase : N * 60 ^ (72 + sh) < 60 ^ 168 :=
          Nat.lt_of_lt_of_le (Nat.mul_lt_mul_of_pos_right hNb (pow_pos _)) (Nat.le_trans (Nat.mul_le_mul_left _ hpw) (by decide))
        have hM2 : N * 60 ^ (72 + sh) * n < 60 ^ 168 := by
          have e1 : N * 60 ^ (72 + sh) ≤ 60 ^ 16 * 60 ^ 88 := Nat.mul_le_mul (Nat.le_of_lt hNb) hpw
          exact Nat.lt_of_le_of_lt (Nat.mul_le_mul e1 (Nat.le_of_lt hn60)) (by decide)
        have q1 := P115 (N * 60 ^ (72 + sh)) n hbase (by omega)
        rw [if_pos hM2, Nat.mul_right_comm] at q1
        rw [Nat.mul_right_comm] at hM2
        have q2 := P81 _ hM2
        rw [placeRes_at (N * n) (72 + sh) (sh : Int) (by omega)] at q2
        clear hbase hM2 hpw
        by_cases c3 : goodP (N * n) (sh : Int)
        · rw [if_pos c3] at q2
          unfold placeV at q2
          have hok2 : (acc' ++ [(n, sh)]).all (okP N) = true := by
            rw [List.all_append, hok']
            simp only [List.all_cons, List.all_nil, Bool.and_true, Bool.true_and]
            exact decide_eq_true c3
          clear c3
          refine gPASW (aI @h0 <|aI @h1 <|aI @h3 <|aI @h6 <|aI @h35 <|aI @h36 <|aI @h37 <|aI @rA <|aI @rB <|aI @r3 <|aI @r7 <|aI @hn <|aI @nats_get? <|aI @nats_length <|aI @hjj <|aI @hj0 <|aI @n3 <|aI @n53 <|aI @ho <|aI @c1 <|@c2) ?_
          refine cnd (fun h => ?_) (fun h => ?_)
          · refine gPASW (aI @h3 <|aI @h6 <|aI @h37 <|aI @r3 <|aI @hty <|aI @ho <|aI @n3 <|aI @n53 <|aI @co115 <|aI @sr115 <|aI @q1.iffx <|aI @co81 <|aI @sr81 <|aI @q2.iffx <|aI @plV_length <|aI @cut_pl <|aI @plV_snoc <|@f1) ?_
            refine ⟨(j + 1, acc' ++ [(n, sh)]), ⟨hd, ?_, ?_, ?_, ?_, ?_, ?_, ?_, ?_, ?_, ?_, ?_, ?_, ?_, ⟨g2 + 1, 54, ?_, ?_, .inl rfl⟩, hj', by simp; omega, hok2, ?_⟩, by dsimp only; omega⟩
            all_goals (try refine fSW (aI @h0 <|aI @h1 <|aI @h6 <|aI @h10 <|aI @h11 <|aI @h12 <|aI @h35 <|aI @h36 <|aI @rA <|aI @rB <|aI @r7 <|aI @ho <|aI @n3 <|aI @n53 <|@plV_length) ?_);all_goals try exact True.intro
            · simp [Mem.new, Mem.set, ho]
            · rw [hfs, List.map_append, ← List.append_assoc, ← hacc]; rfl
          · simp at h
        · rw [if_neg c3] at q2
          have hno : ¬ (byE lh.length lb).all (okP N) = true := by
            rw [List.all_eq_true]
            intro hall
            have hmem : (n, sh) ∈ byE lh.length lb := by
              rw [hby]
              refine List.mem_append_right _ (List.mem_append_left _ (List.mem_map.2 ⟨n, List.mem_filter.2 ⟨List.mem_of_getElem? hn, c⟩, rfl⟩))
            exact c3 (of_decide_eq_true (hall _ hmem))
          rw [byRes, if_neg hno]
          clear hno c3
          refine gPASW (aI @h0 <|aI @h1 <|aI @h3 <|aI @h6 <|aI @h35 <|aI @h36 <|aI @h37 <|aI @rA <|aI @rB <|aI @r3 <|aI @r7 <|aI @hn <|aI @nats_get? <|aI @nats_length <|aI @hjj <|aI @hj0 <|aI @n3 <|aI @n53 <|aI @ho <|aI @c1 <|@c2) ?_
          refine cnd (fun h => ?_) (fun h => ?_)
          · refine gPASW (aI @h3 <|aI @h6 <|aI @h37 <|aI @r3 <|aI @hty <|aI @ho <|aI @n3 <|aI @n53 <|aI @co115 <|aI @sr115 <|aI @q1.iffx <|aI @co81 <|aI @sr81 <|@q2.panicsx) ?_
            refine fin_panic hd rfl ?_
            simp [Mem.new, Mem.set, ho]
          · simp at h
      · rw [if_neg c, List.append_nil] at hfs
        unfold selP at c
        simp only [Bool.and_eq_true, decide_eq_true_eq] at c
        by_cases c0 : 0 < n
        · have c1 : (n : Int) > 0 := by omega
          have c2 : ¬ (lh.length : Int) > 0 := by omega
          refine gPASW (aI @h0 <|aI @h1 <|aI @h3 <|aI @h6 <|aI @h35 <|aI @h36 <|aI @h37 <|aI @rA <|aI @rB <|aI @r3 <|aI @r7 <|aI @hn <|aI @nats_get? <|aI @nats_length <|aI @hjj <|aI @hj0 <|aI @n3 <|aI @n53 <|aI @ho <|aI @c1 <|@c2) ?_
          refine cnd (fun h => ?_) (fun h => ?_)
          · simp at h
          refine gP (aI @h37 <|@f1) ?_
          refine ⟨(j + 1, acc'), ⟨hd, ?_, ?_, ?_, ?_, ?_, ?_, ?_, ?_, ?_, ?_, ?_, ?_, ?_, ⟨g2, ty2, ?_, ?_, ?_⟩, hj', by dsimp only; omega, hok', by rw [hfs]; exact hacc⟩, by dsimp only; omega⟩
          all_goals (try refine fSW (aI @h0 <|aI @h1 <|aI @h3 <|aI @h6 <|aI @h10 <|aI @h11 <|aI @h12 <|aI @h35 <|aI @h36 <|aI @rA <|aI @rB <|aI @r3 <|aI @r7 <|aI @ho <|aI @n3 <|aI @n53 <|@plV_length) ?_);all_goals try exact True.intro
          exact hty
        · have c1 : ¬ (n : Int) > 0 := by omega
          refine gPASW (aI @h0 <|aI @h1 <|aI @h3 <|aI @h6 <|aI @h35 <|aI @h36 <|aI @h37 <|aI @rA <|aI @rB <|aI @r3 <|aI @r7 <|aI @hn <|aI @nats_get? <|aI @nats_length <|aI @hjj <|aI @hj0 <|aI @n3 <|aI @n53 <|aI @ho <|@c1) ?_
          refine cnd (fun h => ?_) (fun h => ?_)
          · simp at h
          refine gP (aI @h37 <|@f1) ?_
          refine ⟨(j + 1, acc'), ⟨hd, ?_, ?_, ?_, ?_, ?_, ?_, ?_, ?_, ?_, ?_, ?_, ?_, ?_, ⟨g2, ty2, ?_, ?_, ?_⟩, hj', by dsimp only; omega, hok', by rw [hfs]; exact hacc⟩, by dsimp only; omega⟩
          all_goals (try refine fSW (aI @h0 <|aI @h1 <|aI @h3 <|aI @h6 <|aI @h10 <|aI @h11 <|aI @h12 <|aI @h35 <|aI @h36 <|aI @rA <|aI @rB <|aI @r3 <|aI @r7 <|aI @ho <|aI @n3 <|aI @n53 <|@plV_length) ?_);all_goals try exact True.intro
          exact hty
    · have hjl : j = P.length := by have := of_decide_eq_false h; omega
      subst hjl
      rw [List.take_length] at hacc
      refine gP (aI @h12 <|@e1) ?_
      refine ⟨(i + 1, acc'), ⟨hd, ?_, ?_, ?_, ?_, ?_, ?_, ?_, ?_, ⟨g2, ty2, ?_, ?_, ?_⟩, by omega, by dsimp only; omega, hok', ?_⟩, by dsimp only; omega⟩
      all_goals (try refine fSW (aI @h0 <|aI @h1 <|aI @h3 <|aI @h10 <|aI @h11 <|aI @h12 <|aI @rA <|aI @rB <|aI @r3 <|aI @ho <|@plV_length) ?_);all_goals try exact True.intro
      · exact hty
      · rw [hby, hacc]; simp
  · have hil : i = lb.length := by have := of_decide_eq_false h; omega
    subst hil
    rw [List.drop_length, byE, List.append_nil] at hby
    rw [byRes, hby, if_pos hok]
    clear h
    refine gPAS (aI @h3 <|aI @r3 <|@ho) ?_
    refine fin_ret (X := X) (fn := Tryd.f117) (vs := [.rs ⟨2, 3, 1, g⟩ ty 0 acc.length]) hd ?_ ?_ ?_
    · simp (maxSteps := 2000000) (disch := omega) only [SA, ofValue, ofCell, bin, intBin, un, idx, Go.Ev.builtin, calleeOf, V.isNilS, V.depthOk, depth1, V.ok1, V.isAgg, V.cells, isConst, Nat.reduceBEq, Nat.reduceEqDiff, ↓reduceIte, Nat.reduceLeDiff, Nat.reduceAdd, Nat.reduceMul, Nat.reduceSub, Nat.reduceLT, Int.reduceAdd, Int.reduceSub, Int.reduceMul, Int.reduceLT, Int.reduceLE, Int.reduceToNat, Int.reduceNeg, reduceIte, reduceCtorEq, SPx, Tryd.results117, resVars, resVar]
    · simp (maxSteps := 2000000) (disch := omega) only [SA, ofValue, ofCell, bin, intBin, un, idx, Go.Ev.builtin, calleeOf, V.isNilS, V.depthOk, depth1, V.ok1, V.isAgg, V.cells, isConst, Nat.reduceBEq, Nat.reduceEqDiff, ↓reduceIte, Nat.reduceLeDiff, Nat.reduceAdd, Nat.reduceMul, Nat.reduceSub, Nat.reduceLT, Int.reduceAdd, Int.reduceSub, Int.reduceMul, Int.reduceLT, Int.reduceLE, Int.reduceToNat, Int.reduceNeg, reduceIte, reduceCtorEq, SPx, SAx, resOf, X_own, r3, plV_length, cut_pl]
    · refine (frzR_own (fun r ty off len hm => ?_)).trans ho
      simp [resOf, leaves, leaves2] at hm
      rw [hm.1, ho]; rfl
def bytS (a b : List Int) : List (Nat × Nat) × Int := if chk2 a b ≠ 0 then ([], chk2 a b) else if (byE a.length (natsOf b)).all (okP (numI a)) = true then (byE a.length (natsOf b), 0) else ([], 3)
theorem P51 (a b : List Int) : Ans X 51 [.sl (ints a), .sl (ints b)] (.ret (.tup [.sl (plV (numI a) (bytS a b).1), vi (bytS a b).2])) := by
  refine call_of_X (fn := Tryd.f51) 2 Tryd.func51 rfl (by decide +kernel) rfl ?_ ?_ ?_ ?_
  · rfl
  · intro h; exact absurd h (by rw [sr51]; decide)
  · intro v hv; injection hv with hv; subst hv; rfl
  intro s hs hd ho
  have hm : s.m = ⟨.nil, []⟩ := by subst hs; rfl
  have h0 : s.t.get 0 = .sl (ints a) := by subst hs; rfl
  have h1 : s.t.get 1 = .sl (ints b) := by subst hs; rfl
  clear hs
  have key : ∀ (m : Mem) (dst : Nat) (K KP : V → Mem → Prop), m.out = [] → m.row ⟨0, 2, 0, 1⟩ = some ⟨1, 22, false, false, [.sl (ints a)]⟩ → m.row ⟨0, 3, 0, 1⟩ = some ⟨1, 22, false, false, [.sl (ints b)]⟩ →
      (CallQ X 116 [vi (chk2 a b), .fn 117 [] [.ptr ⟨0, 3, 0, 1⟩ 0 0, .ptr ⟨0, 2, 0, 1⟩ 0 0]] m dst K KP ↔ K (.tup [.sl (plV (numI a) (bytS a b).1), vi (bytS a b).2]) m) := by
    rintro ⟨own, out⟩ dst K KP ho r2 r3
    dsimp only at ho
    subst ho
    by_cases hc : chk2 a b = 0
    · obtain ⟨ha, hb⟩ := chk2_ok hc
      obtain ⟨a1, a2, a3, a4, _⟩ := chk_ok ha
      obtain ⟨b1, b2, b3, b4, _⟩ := chk_ok hb
      rw [a1] at r2
      rw [b1] at r3
      rw [hc]
      have q := fun o1 => P117 (natsOf b) (natsOf a) b2 (by omega) a2 (by omega) (numI a) rfl o1 own r3 r2
      rw [a4] at q
      by_cases c : (byE a.length (natsOf b)).all (okP (numI a)) = true
      · rw [byRes, if_pos c] at q
        refine AnsAt.iff (m := ⟨own, []⟩) (M116 117 _ own _ rfl co117 sr117 q _ (.inl ⟨_, rfl, ?_⟩))
        rw [bytS, if_neg (fun e => e hc), if_pos c]
      · rw [byRes, if_neg c] at q
        refine AnsAt.iff (m := ⟨own, []⟩) (M116 117 _ own _ rfl co117 sr117 q _ (.inr ⟨3, rfl, ?_⟩))
        rw [bytS, if_neg (fun e => e hc), if_neg c]; rfl
    · refine AnsAt.iff (m := ⟨own, []⟩) ?_
      have := M116e (chk2 a b) hc 117 [.ptr ⟨0, 3, 0, 1⟩ 0 0, .ptr ⟨0, 2, 0, 1⟩ 0 0] own rfl
      rw [bytS, if_pos hc]; exact this
  refine gPA (aI @h0 <|aI @h1 <|@hm) ?_
  with_reducible refine W_region_k ?_
  intro K hK
  simp (maxSteps := 2000000) (disch := omega) only [SA, ofValue, ofCell, bin, intBin, un, idx, Go.Ev.builtin, calleeOf, V.isNilS, V.depthOk, depth1, V.ok1, V.isAgg, V.cells, isConst, Nat.reduceBEq, Nat.reduceEqDiff, ↓reduceIte, Nat.reduceLeDiff, Nat.reduceAdd, Nat.reduceMul, Nat.reduceSub, Nat.reduceLT, Int.reduceAdd, Int.reduceSub, Int.reduceMul, Int.reduceLT, Int.reduceLE, Int.reduceToNat, Int.reduceNeg, reduceIte, reduceCtorEq, SPx, SAx, hm, co78, sr78, (P78 a b).iff, co116, sr116]
  rw [key _ _ _ _ rfl (by simp [Mem.row_new, Mem.row_setW, Mem.new_out, Mem.gen_new, Mem.gen_nil]) (by simp [Mem.row_new, Mem.row_setW, Mem.new_out, Mem.gen_new, Mem.gen_nil])]
  simp (maxSteps := 2000000) (disch := omega) only [SA, ofValue, ofCell, bin, intBin, un, idx, Go.Ev.builtin, calleeOf, V.isNilS, V.depthOk, depth1, V.ok1, V.isAgg, V.cells, isConst, Nat.reduceBEq, Nat.reduceEqDiff, ↓reduceIte, Nat.reduceLeDiff, Nat.reduceAdd, Nat.reduceMul, Nat.reduceSub, Nat.reduceLT, Int.reduceAdd, Int.reduceSub, Int.reduceMul, Int.reduceLT, Int.reduceLE, Int.reduceToNat, Int.reduceNeg, reduceIte, reduceCtorEq, SPx, SAx]
  refine hK _ _ ?_
  clear hK K
  refine gP @Nat.zero_add ?_
  refine rP hd @Tryd.results51 ?_
  try exact True.intro
end Go.Proofs.YtpocekfifokndaaDoor
namespace Go.Proofs.YtpocekfifokndaaDoor
open Go Go.Ev Go.Pl
set_option maxRecDepth 100000
set_option maxHeartbeats 4000000
def rt : Nat → Nat
  | 0 => 0
  | n + 1 => if (rt n + 1) * (rt n + 1) ≤ n + 1 then rt n + 1 else rt n
theorem rt_spec : ∀ n, rt n * rt n ≤ n ∧ n < (rt n + 1) * (rt n + 1)
  | 0 => ⟨Nat.le_refl _, by decide⟩
  | n + 1 => by
    obtain ⟨h1, h2⟩ := rt_spec n
    rw [rt]
    split
    · rename_i h
      refine ⟨h, ?_⟩
      have e : (rt n + 1 + 1) * (rt n + 1 + 1) = (rt n + 1) * (rt n + 1) + 2 * (rt n + 1) + 1 := by grind
      omega
    · exact ⟨by omega, by omega⟩
theorem sq_le {a b : Nat} (h : a ≤ b) : a * a ≤ b * b := Nat.mul_le_mul h h
theorem rt_uniq {n r : Nat} (h1 : r * r ≤ n) (h2 : n < (r + 1) * (r + 1)) : rt n = r := by
  obtain ⟨g1, g2⟩ := rt_spec n
  rcases Nat.lt_trichotomy (rt n) r with h | h | h
  · have := sq_le (show rt n + 1 ≤ r from h); omega
  · exact h
  · have := sq_le (show r + 1 ≤ rt n from h); omega
theorem rt_lt {n B : Nat} (h : n < B * B) : rt n < B := by
  obtain ⟨g1, g2⟩ := rt_spec n
  rcases Nat.lt_or_ge (rt n) B with h' | h'
  · exact h'
  · have := sq_le h'; omega
theorem rt_lt_iff {n B : Nat} : rt n < B ↔ n < B * B := by
  refine ⟨fun h => ?_, rt_lt⟩
  have := sq_le (show rt n + 1 ≤ B from h)
  have := (rt_spec n).2
  omega
theorem P111 (n : Nat) (hn : n < 1152921504606846976) : Ans X 111 [vn n] (.ret (vn (rt n))) := by
  refine call_of_X (fn := Tryd.f111) 1 Tryd.func111 rfl (by decide +kernel) rfl ?_ ?_ ?_ ?_
  · rfl
  · exact fun _ => rfl
  · intro v hv; injection hv with hv; subst hv; rfl
  intro s hs hd ho
  have h0 : s.t.get 0 = vn n := by subst hs; rfl
  clear hs
  refine gP @h0 ?_
  refine W_loopg (fun (x : Nat × Nat) s => s.dfs = [] ∧ s.m.out.length = 0 ∧ s.t.get 0 = vn n ∧ s.t.get 3 = vn x.1 ∧ s.t.get 4 = vn x.2 ∧ x.1 ≤ x.2 ∧ x.2 ≤ 1073741824 ∧ x.1 * x.1 ≤ n ∧ n < (x.2 + 1) * (x.2 + 1)) (fun x => x.2 - x.1) (0, 1073741824) ?_ ?_
  · refine ⟨hd, ?_, ?_, ?_, ?_, Nat.zero_le _, Nat.le_refl _, Nat.zero_le _, by omega⟩
    all_goals (try refine f0 (aI @h0 <|@ho) ?_);all_goals try exact True.intro
    all_goals rfl
  clear hd h0 ho
  rintro ⟨lo, hi⟩ s ⟨hd, ho, h0, h3, h4, hlh, hhi, hlo2, hhi2⟩
  dsimp only at h3 h4 hlh hhi hlo2 hhi2
  refine gP (aI @h3 <|@h4) ?_
  refine cnd (fun h => ?_) (fun h => ?_)
  · have h : lo < hi := by have := of_decide_eq_true h; omega
    obtain ⟨m, hm⟩ : ∃ m, m = (lo + hi + 1) / 2 := ⟨_, rfl⟩
    have hmb : lo < m ∧ m ≤ hi := by omega
    have e1 : wr .i64 (Int.tdiv ((lo + hi + 1 : Nat) : Int) 2) = (m : Int) := by
      rw [show Int.tdiv ((lo + hi + 1 : Nat) : Int) 2 = (((lo + hi + 1) / 2 : Nat) : Int) from rfl, ← hm, wr_nat (by omega)]
    have hmm : m * m ≤ 1073741824 * 1073741824 := sq_le (by omega)
    have e2 : wr .i64 ((m * m : Nat) : Int) = ((m * m : Nat) : Int) := wr_nat (by omega)
    have e3 : V.int .i64 (wr .i64 ((m : Int) - 1)) = vn (m - 1) := by rw [wr_i64 (by omega) (by omega)]; congr 1; omega
    have hlt1 : hi - m < hi - lo ∧ m - 1 - lo < hi - lo ∧ m - 1 ≤ 1073741824 ∧ lo ≤ m - 1 := by omega
    have hm1 : m - 1 + 1 = m := by omega
    generalize hq : m * m = q at *
    clear hm hmm
    refine gPC (aI @h0 <|aI @h3 <|aI @h4 <|aI @e1 <|aI @e2 <|@hq) ?_
    refine cnd (fun h => ?_) (fun h => ?_)
    · have h' : q ≤ n := by have := of_decide_eq_true h; omega
      refine gP @Nat.zero_add ?_
      refine ⟨(m, hi), ⟨hd, ?_, ?_, ?_, ?_, hmb.2, hhi, ?_, hhi2⟩, hlt1.1⟩
      all_goals (try refine f0 (aI @h0 <|aI @h4 <|@ho) ?_);all_goals try exact True.intro
      rw [hq]; exact h'
    · have h' : n < q := by have := of_decide_eq_false h; omega
      refine gP @e3 ?_
      refine ⟨(lo, m - 1), ⟨hd, ?_, ?_, ?_, ?_, hlt1.2.2.2, hlt1.2.2.1, hlo2, ?_⟩, hlt1.2.1⟩
      all_goals (try refine f0 (aI @h0 <|aI @h3 <|@ho) ?_);all_goals try exact True.intro
      rw [hm1, hq]; exact h'
  · have h : lo = hi := by have := of_decide_eq_false h; omega
    subst h
    have e := rt_uniq hlo2 hhi2
    rw [e]
    refine gP @h3 ?_
    refine rP hd @Tryd.results111 ?_
    try exact True.intro
theorem P112 (n : Nat) (hn : n < 4611686018427387904) : Ans X 112 [vn n] (.ret (vn (rt n))) := by
  refine call_of_X (fn := Tryd.f112) 1 Tryd.func112 rfl (by decide +kernel) rfl ?_ ?_ ?_ ?_
  · rfl
  · exact fun _ => rfl
  · intro v hv; injection hv with hv; subst hv; rfl
  intro s hs hd ho
  have h0 : s.t.get 0 = vn n := by subst hs; rfl
  clear hs
  refine gP @h0 ?_
  refine W_loopg (fun (x : Nat × Nat) s => s.dfs = [] ∧ s.m.out.length = 0 ∧ s.t.get 0 = vn n ∧ s.t.get 3 = vn x.1 ∧ s.t.get 4 = vn x.2 ∧ x.1 < x.2 ∧ x.2 ≤ 2147483648 ∧ x.1 * x.1 ≤ n ∧ n < x.2 * x.2) (fun x => x.2 - x.1) (0, 2147483648) ?_ ?_
  · refine ⟨hd, ?_, ?_, ?_, ?_, Nat.zero_lt_succ _, Nat.le_refl _, Nat.zero_le _, by omega⟩
    all_goals (try refine f0 (aI @h0 <|@ho) ?_);all_goals try exact True.intro
    all_goals rfl
  clear hd h0 ho
  rintro ⟨lo, hi⟩ s ⟨hd, ho, h0, h3, h4, hlh, hhi, hlo2, hhi2⟩
  dsimp only at h3 h4 hlh hhi hlo2 hhi2
  have e0 : wr .i64 ((hi : Int) - lo) = (hi : Int) - lo := by rw [wr_i64 (by omega) (by omega)]
  by_cases c : 1 < hi - lo
  · have c' : (hi : Int) - lo > 1 := by omega
    have c2 : decide (wr .i64 ((hi : Int) - lo) > 1) = true := by rw [e0]; exact decide_eq_true c'
    clear e0 c'
    obtain ⟨m, hm⟩ : ∃ m, m = (lo + hi) / 2 := ⟨_, rfl⟩
    have hmb : lo < m ∧ m < hi := by omega
    have e1 : wr .i64 (Int.tdiv ((lo + hi : Nat) : Int) 2) = (m : Int) := by
      rw [show Int.tdiv ((lo + hi : Nat) : Int) 2 = (((lo + hi) / 2 : Nat) : Int) from rfl, ← hm, wr_nat (by omega)]
    have hmm : m * m ≤ 2147483648 * 2147483648 := sq_le (by omega)
    have e2 : wr .i64 ((m * m : Nat) : Int) = ((m * m : Nat) : Int) := wr_nat (by omega)
    have hlt1 : hi - m < hi - lo ∧ m - lo < hi - lo ∧ m ≤ 2147483648 := by omega
    generalize hq : m * m = q at *
    clear hm hmm
    refine gPC (aI @h0 <|aI @h3 <|aI @h4 <|@c2) ?_
    refine cnd (fun h => ?_) (fun h => ?_)
    · refine gPC (aI @h0 <|aI @h3 <|aI @h4 <|aI @e1 <|aI @e2 <|@hq) ?_
      refine cnd (fun h => ?_) (fun h => ?_)
      · have h' : q ≤ n := by have := of_decide_eq_true h; omega
        refine gP @Nat.zero_add ?_
        refine ⟨(m, hi), ⟨hd, ?_, ?_, ?_, ?_, hmb.2, hhi, ?_, hhi2⟩, hlt1.1⟩
        all_goals (try refine f0 (aI @h0 <|aI @h4 <|@ho) ?_);all_goals try exact True.intro
        rw [hq]; exact h'
      · have h' : n < q := by have := of_decide_eq_false h; omega
        refine gP @Nat.zero_add ?_
        refine ⟨(lo, m), ⟨hd, ?_, ?_, ?_, ?_, hmb.1, hlt1.2.2, hlo2, ?_⟩, hlt1.2.1⟩
        all_goals (try refine f0 (aI @h0 <|aI @h3 <|@ho) ?_);all_goals try exact True.intro
        rw [hq]; exact h'
    · simp at h
  · have c2 : decide (wr .i64 ((hi : Int) - lo) > 1) = false := by rw [e0]; exact decide_eq_false (by omega)
    clear e0
    obtain rfl : hi = lo + 1 := by omega
    have e := rt_uniq hlo2 hhi2
    rw [e]
    refine gPC (aI @h0 <|aI @h3 <|aI @h4 <|@c2) ?_
    refine cnd (fun h => ?_) (fun h => ?_)
    · simp at h
    refine gP @h3 ?_
    refine rP hd @Tryd.results112 ?_
    try exact True.intro
end Go.Proofs.YtpocekfifokndaaDoor
namespace Go.Proofs.YtpocekfifokndaaDoor
open Go Go.Ev Go.Pl
set_option maxRecDepth 100000
set_option maxHeartbeats 4000000
theorem P95 (n : Nat) (hn : n < 9000000000000000000) : Ans X 95 [vn n] (.ret (.sl (nats (canL n)))) := by
  refine call_of_X (fn := Tryd.f95) 1 Tryd.func95 rfl (by decide +kernel) rfl ?_ ?_ ?_ ?_
  · rfl
  · intro h; exact absurd h (by rw [sr95]; decide)
  · intro v hv; injection hv with hv; subst hv; rfl
  intro s hs hd ho
  have hm : s.m = ⟨.nil, []⟩ := by subst hs; rfl
  have h0 : s.t.get 0 = vn n := by subst hs; rfl
  clear hs
  have hlen : (canL n).length ≤ 12 := canL_length_le.2 (by omega)
  refine gP (aI @h0 <|@hm) ?_
  refine W_loopg (fun (x : List Nat × Nat) s => s.dfs = [] ∧ s.m.out.length = 0 ∧ s.t.get 0 = vn x.2 ∧ Held s.m 3 1 (s.t.get 3) x.1 ∧ canL n = x.1 ++ canL x.2) (fun x => x.2) ([], n) ?_ ?_
  · refine ⟨hd, ?_, ?_, ⟨1, 0, ?_, ?_, .inr ⟨rfl, rfl⟩⟩, by simp⟩
    all_goals (try refine f0 (aI @h0 <|@hm) ?_);all_goals try exact True.intro
    · rfl
  clear hd h0 ho hm
  rintro ⟨l, q⟩ s ⟨hd, ho, h0, ⟨g, ty, h3, r3, hty⟩, hc⟩
  dsimp only at h0 h3 r3 hty hc
  have hl : l.length ≤ 12 := by have := congrArg List.length hc; rw [List.length_append] at this; omega
  have hq : q < 9000000000000000000 := by
    have h1 : numL (canL n) = n := num_canL n
    rw [hc, num_append, num_canL] at h1
    have : q ≤ 60 ^ l.length * q := Nat.le_mul_of_pos_left _ (pow_pos _)
    omega
  refine gP (aI @h0 <|aI @h3 <|aI @r3 <|@ho) ?_
  refine cnd (fun h => ?_) (fun h => ?_)
  · have h := of_decide_eq_true h
    have hq2 : q / 60 < 9000000000000000000 := by omega
    refine gPSC (aI @h0 <|aI @h3 <|aI @r3 <|aI @ho <|@hty) ?_
    refine ⟨(l ++ [q % 60], q / 60), ⟨hd, ?_, ?_, ⟨g + 1, 3, ?_, ?_, .inl rfl⟩, ?_⟩, by dsimp only; omega⟩
    all_goals (try refine fS (aI @h0 <|aI @h3 <|@ho) ?_);all_goals try exact True.intro
    · rw [hc, canL_pos (by omega : 0 < q)]; simp
  · have h := of_decide_eq_false h
    obtain rfl : q = 0 := by omega
    rw [canL_zero, List.append_nil] at hc
    subst hc
    refine gP (aI @h3 <|@ho) ?_
    refine rPS hd (aI @Tryd.results95 <|aI (mv_rs r3) <|aI @h3 <|@ho) ?_
    try exact True.intro
end Go.Proofs.YtpocekfifokndaaDoor
namespace Go.Proofs.YtpocekfifokndaaDoor
open Go Go.Ev Go.Pl
set_option maxRecDepth 100000
set_option maxHeartbeats 4000000
def rdn (B : Nat) : Nat → Nat → Nat → Nat × Nat
  | 0, x, k => (x, k)
  | f + 1, x, k => if B ≤ rt x then rdn B f (x / 3600) (k + 1) else (x, k)
def rup (B : Nat) : Nat → Nat → Int → Nat × Int
  | 0, x, k => (x, k)
  | f + 1, x, k => if rt x < B then rup B f (x * 3600) (k - 1) else (x, k)
def rootX (n d : Nat) : Nat × Int := rup (60 ^ (d - 1)) 8 (rdn (60 ^ d) 8 n 0).1 (rdn (60 ^ d) 8 n 0).2
theorem rt_pos {x : Nat} (h : 0 < x) : 0 < rt x := by
  rcases Nat.eq_zero_or_pos (rt x) with h0 | h0
  · have := (rt_spec x).2
    rw [h0] at this; omega
  · exact h0
theorem shV_eq {N : Nat} (h : 0 < N) (sh : Int) : placeV N sh = shV N sh := by
  rw [placeV, shV, if_neg (by omega), Int.add_comm]
theorem P46 (n d : Nat) (hn0 : 0 < n) (hn : n ≤ 1099511627776) (hd0 : 0 < d) (hd5 : d ≤ 5) : Ans X 46 [vn n, vn d] (.ret (.tup [shV (rt (rootX n d).1) (rootX n d).2, vi 0])) := by
  refine call_of_X (fn := Tryd.f46) 2 Tryd.func46 rfl (by decide +kernel) rfl ?_ ?_ ?_ ?_
  · rfl
  · intro h; exact absurd h (by rw [sr46]; decide)
  · intro v hv; injection hv with hv; subst hv; rfl
  intro s hs hd ho
  have hm : s.m = ⟨.nil, []⟩ := by subst hs; rfl
  have h0 : s.t.get 0 = vn n := by subst hs; rfl
  have h1 : s.t.get 1 = vn d := by subst hs; rfl
  clear hs
  have c1 : ¬ ((n : Int) < 1) := by omega
  have c2 : ¬ ((n : Int) > 1099511627776) := by omega
  have c3 : ¬ ((d : Int) < 1) := by omega
  have c4 : ¬ ((d : Int) > 5) := by omega
  have qd := P106 d (by omega)
  have qd1 := P106 (d - 1) (by omega)
  have hdd : (d : Int) - 1 = ((d - 1 : Nat) : Int) := by omega
  have hB1 : 60 ^ (d - 1) ≤ 60 ^ 4 := Nat.pow_le_pow_right (by decide) (by omega)
  have hBp : 0 < 60 ^ (d - 1) := pow_pos _
  have hB0 : 60 ≤ 60 ^ d := by
    calc 60 = 60 ^ 1 := rfl
      _ ≤ 60 ^ d := Nat.pow_le_pow_right (by decide) hd0
  rw [rootX]
  generalize 60 ^ (d - 1) = B' at *
  generalize 60 ^ d = B at *
  generalize hRd : rdn B 8 n 0 = R
  refine gPA (aI @h0 <|aI @h1 <|aI @hm <|aI @c1 <|aI @c2 <|aI @c3 <|@c4) ?_
  refine cnd (fun h => ?_) (fun h => ?_)
  · simp at h
  clear h c1 c2 c3 c4
  refine gPA (aI @h0 <|aI @h1 <|@hm) ?_
  refine W_loopg (fun (x : Nat × Nat) s => s.dfs = [] ∧ s.m.out.length = 0 ∧ s.t.get 1 = vn d ∧ s.t.get 4 = .ptr ⟨0, 4, 0, 1⟩ 0 0 ∧ s.t.get 6 = vn x.1 ∧ s.t.get 7 = vn x.2 ∧ s.m.row ⟨0, 4, 0, 1⟩ = some ⟨1, 54, false, false, [.agg [.rs ⟨0, 4, 1, 1⟩ 0 0 0, vi 0]]⟩ ∧
    x.2 ≤ 8 ∧ 0 < x.1 ∧ x.1 * 3600 ^ x.2 ≤ n ∧ R = rdn B (8 - x.2) x.1 x.2) (fun x => x.1) (n, 0) ?_ ?_
  · refine ⟨hd, ?_, ?_, ?_, ?_, ?_, ?_, Nat.zero_le _, hn0, by simp, hRd.symm⟩
    all_goals (try refine f0 (aI @h0 <|aI @h1 <|@hm) ?_);all_goals try exact True.intro
    all_goals rfl
  clear hd h0 h1 hm ho hRd
  rintro ⟨x, k⟩ s ⟨hd, ho, h1, h4, h6, h7, r4, hk, hx0, hxn, hr⟩
  dsimp only at h6 h7 hk hx0 hxn hr
  have hxle : x ≤ n := Nat.le_trans (Nat.le_mul_of_pos_right _ (Nat.pow_pos (by decide))) hxn
  have q1 := P111 x (by omega)
  have hk8 : k < 8 := by
    rcases Nat.lt_or_ge k 8 with h | h
    · exact h
    · obtain rfl : k = 8 := by omega
      have : 3600 ^ 8 ≤ x * 3600 ^ 8 := Nat.le_mul_of_pos_left _ hx0
      omega
  refine gP (aI @h1 <|aI @h6 <|aI @ho <|aI @co111 <|aI @sr111 <|aI @q1.iffx <|aI @co106 <|aI @sr106 <|@qd.iffx) ?_
  rw [show 8 - k = (8 - (k + 1)) + 1 by omega, rdn] at hr
  refine cnd (fun h => ?_) (fun h => ?_)
  · have hB : B ≤ rt x := by have := of_decide_eq_true h; omega
    rw [if_pos hB] at hr
    have hx3600 : 3600 ≤ x := by
      have := sq_le (show 60 ≤ rt x by omega)
      have := (rt_spec x).1
      omega
    have hdv : 0 < x / 3600 := Nat.div_pos hx3600 (by decide)
    have hlt : x / 3600 < x := Nat.div_lt_self hx0 (by decide)
    have hxn' : x / 3600 * 3600 ^ (k + 1) ≤ n := by
      have e1 : x / 3600 * 3600 ≤ x := Nat.div_mul_le_self x 3600
      rw [Nat.pow_succ, Nat.mul_comm (3600 ^ k), ← Nat.mul_assoc]
      exact Nat.le_trans (Nat.mul_le_mul_right _ e1) hxn
    have e1 : V.int .i64 (wr .i64 (Int.tdiv (x : Int) 3600)) = vn (x / 3600) := by
      rw [show Int.tdiv (x : Int) 3600 = ((x / 3600 : Nat) : Int) from rfl, wr_nat (by omega)]
    have e2 : V.int .i64 (wr .i64 ((k : Int) + 1)) = vn (k + 1) := by rw [wr_i64 (by omega) (by omega)]; rfl
    clear hxn hB hx3600
    repeat (first
      | with_reducible first | refine W_seq ?_ | refine W_skip ?_ | refine W_label ?_ | refine W_ret ?_ | refine W_exit ?_ | refine W_block ?_ | refine thenI ?_ | refine thenRet ?_ | refine thenExit ?_ | refine blockRet ?_ | refine blockI ?_ | refine blockExit ?_ | refine blockExitNe rfl ?_
      | (with_reducible refine W_region_k ?_
         intro K hK
         simp (maxSteps := 2000000) (disch := omega) only [SA, ofValue, ofCell, bin, intBin, un, idx, Go.Ev.builtin, calleeOf, V.isNilS, V.depthOk, depth1, V.ok1, V.isAgg, V.cells, isConst, Nat.reduceBEq, Nat.reduceEqDiff, ↓reduceIte, Nat.reduceLeDiff, Nat.reduceAdd, Nat.reduceMul, Nat.reduceSub, Nat.reduceLT, Int.reduceAdd, Int.reduceSub, Int.reduceMul, Int.reduceLT, Int.reduceLE, Int.reduceToNat, Int.reduceNeg, reduceIte, reduceCtorEq, SPx, h6, h7, e1, e2, Int.reduceEq]
         refine hK _ _ ?_
         clear hK K)
    )
    refine ⟨(x / 3600, k + 1), ⟨hd, ?_, ?_, ?_, ?_, ?_, ?_, by omega, hdv, hxn', hr⟩, hlt⟩
    all_goals (try refine f0 (aI @h1 <|aI @h4 <|aI @r4 <|@ho) ?_);all_goals try exact True.intro
  have hB : ¬ B ≤ rt x := by have := of_decide_eq_false h; omega
  rw [if_neg hB] at hr
  subst hr
  dsimp only
  clear h hB hxn qd
  generalize hRu : rup B' 8 x (k : Int) = R
  refine gP @Nat.zero_add ?_
  refine W_loopg (fun (y : Nat × Nat) s => s.dfs = [] ∧ s.m.out.length = 0 ∧ s.t.get 1 = vn d ∧ s.t.get 4 = .ptr ⟨0, 4, 0, 1⟩ 0 0 ∧ s.t.get 6 = vn y.1 ∧ s.t.get 7 = vi ((k : Int) - y.2) ∧ s.m.row ⟨0, 4, 0, 1⟩ = some ⟨1, 54, false, false, [.agg [.rs ⟨0, 4, 1, 1⟩ 0 0 0, vi 0]]⟩ ∧
    y.2 ≤ 8 ∧ 0 < y.1 ∧ 3600 ^ y.2 ≤ y.1 ∧ y.1 < 60 ^ 10 ∧ R = rup B' (8 - y.2) y.1 ((k : Int) - y.2)) (fun y => 60 ^ 10 - y.1) (x, 0) ?_ ?_
  · refine ⟨hd, ?_, ?_, ?_, ?_, ?_, ?_, Nat.zero_le _, hx0, hx0, by omega, by rw [← hRu]; simp⟩
    all_goals (try refine f0 (aI @h1 <|aI @h4 <|aI @h6 <|aI @h7 <|aI @r4 <|@ho) ?_);all_goals try exact True.intro
    all_goals simp
  clear hd ho h1 h4 h6 h7 r4 q1 hRu
  rintro ⟨y, j⟩ s ⟨hd, ho, h1, h4, h6, h7, r4, hj, hy0, hyj, hyb, hr⟩
  dsimp only at h6 h7 hj hy0 hyj hyb hr
  have q1 := P111 y (by omega)
  have hj8 : j < 8 := by
    rcases Nat.lt_or_ge j 8 with h | h
    · exact h
    · obtain rfl : j = 8 := by omega
      omega
  rw [show 8 - j = (8 - (j + 1)) + 1 by omega, rup] at hr
  refine gP (aI @h1 <|aI @h6 <|aI @ho <|aI @hdd <|aI @wr_nat <|aI @co111 <|aI @sr111 <|aI @q1.iffx <|aI @co106 <|aI @sr106 <|@qd1.iffx) ?_
  refine cnd (fun h => ?_) (fun h => ?_)
  · have hB : rt y < B' := by have := of_decide_eq_true h; omega
    rw [if_pos hB] at hr
    have hy4 : y < 60 ^ 8 := by
      have h1 := rt_lt_iff.1 hB
      have h2 := sq_le hB1
      exact Nat.lt_of_lt_of_le h1 h2
    have hyj' : 3600 ^ (j + 1) ≤ y * 3600 := by rw [Nat.pow_succ]; exact Nat.mul_le_mul_right _ hyj
    have e1 : V.int .i64 (wr .i64 ((y : Int) * 3600)) = vn (y * 3600) := by
      rw [show (y : Int) * 3600 = ((y * 3600 : Nat) : Int) from rfl, wr_nat (by omega)]
    have e2 : V.int .i64 (wr .i64 ((k : Int) - j - 1)) = vi ((k : Int) - ((j + 1 : Nat) : Int)) := by rw [wr_i64 (by omega) (by omega)]; congr 1; omega
    have hnum : y * 3600 < 60 ^ 10 ∧ 60 ^ 10 - y * 3600 < 60 ^ 10 - y ∧ 0 < y * 3600 := by omega
    have e3 : (k : Int) - j - 1 = (k : Int) - ((j + 1 : Nat) : Int) := by omega
    rw [e3] at hr
    clear hyj hB hy4 e3
    refine gP (aI @h6 <|aI @h7 <|aI @e1 <|@e2) ?_
    refine ⟨(y * 3600, j + 1), ⟨hd, ?_, ?_, ?_, ?_, ?_, ?_, by omega, hnum.2.2, hyj', hnum.1, hr⟩, hnum.2.1⟩
    all_goals (try refine f0 (aI @h1 <|aI @h4 <|aI @r4 <|@ho) ?_);all_goals try exact True.intro
  have hB : ¬ rt y < B' := by have := of_decide_eq_false h; omega
  rw [if_neg hB] at hr
  subst hr
  dsimp only
  have hrt : rt y < 60 ^ 5 := rt_lt (by omega)
  have q2 := P107 (rt y) ((k : Int) - j) (by omega) (by omega) (by omega)
  unfold shV at q2 ⊢
  clear hB h hyj hyb hy0 hrt
  refine gPAS (aI @h1 <|aI @h4 <|aI @h6 <|aI @h7 <|aI @r4 <|aI @ho <|aI @co111 <|aI @sr111 <|aI @q1.iffx <|aI @co107 <|aI @sr107 <|@q2.iffx) ?_
  refine rPA hd (aI @Tryd.results46 <|aI @h4 <|aI @r4 <|@ho) ?_
  try exact True.intro
end Go.Proofs.YtpocekfifokndaaDoor
namespace Go.Proofs.YtpocekfifokndaaDoor
open Go Go.Ev Go.Pl
set_option maxRecDepth 100000
set_option maxHeartbeats 4000000
def chkP (a : List Int) (sh : Int) : Int := if chk a ≠ 0 then chk a else if sh < -64 ∨ 64 < sh then 8 else if a.length = 0 ∧ sh ≠ 0 then 5 else 0
theorem P59 (a : List Int) (sh : Int) : Ans X 59 [.agg [.sl (ints a), vi sh]] (.ret (vi (chkP a sh))) := by
  refine call_of_X (fn := Tryd.f59) 1 Tryd.func59 rfl (by decide +kernel) rfl ?_ ?_ ?_ ?_
  · rfl
  · exact fun _ => rfl
  · intro v hv; injection hv with hv; subst hv; rfl
  intro s hs hd ho
  have hm : s.m = ⟨.nil, []⟩ := by subst hs; rfl
  have h0 : s.t.get 0 = .agg [.sl (ints a), vi sh] := by subst hs; rfl
  clear hs
  refine gPA (aI @h0 <|aI @hm <|aI @co28 <|aI @sr28 <|((P28 a).iffx)) ?_
  refine cnd (fun h => ?_) (fun h => ?_)
  · have h : chk a ≠ 0 := by simpa using h
    refine gP @Nat.zero_add ?_
    refine rP hd @Tryd.results59 ?_
    try exact True.intro
    rw [chkP, if_pos h]
  have hc : chk a = 0 := by simpa using h
  rw [chkP, if_neg (fun e => e hc)]
  clear h
  by_cases c1 : sh < -64
  · rw [if_pos (.inl c1)]
    refine gPA (aI @h0 <|aI @hm <|@c1) ?_
    refine cnd (fun h => ?_) (fun h => ?_)
    · refine gP @Nat.zero_add ?_
      refine rP hd @Tryd.results59 ?_
      try exact True.intro
    · simp at h
  by_cases c2 : sh > 64
  · rw [if_pos (.inr c2)]
    refine gPA (aI @h0 <|aI @hm <|aI @c1 <|@c2) ?_
    refine cnd (fun h => ?_) (fun h => ?_)
    · refine gP @Nat.zero_add ?_
      refine rP hd @Tryd.results59 ?_
      try exact True.intro
    · simp at h
  rw [if_neg (by omega)]
  refine gPA (aI @h0 <|aI @hm <|aI @c1 <|aI @c2 <|@ints_length) ?_
  refine cnd (fun h => ?_) (fun h => ?_)
  · simp at h
  clear h
  by_cases c3 : a.length = 0
  · have e3 : (((a.length : Nat) : Int) == 0) = true := by rw [c3]; rfl
    by_cases c4 : sh = 0
    · have e4 : (sh != 0) = false := by rw [c4]; rfl
      rw [if_neg (fun e => e.2 c4)]
      refine gPA (aI @h0 <|aI @hm <|aI @ints_length <|aI @e3 <|@e4) ?_
      refine cnd (fun h => ?_) (fun h => ?_)
      · simp at h
      refine gP @Nat.zero_add ?_
      refine rP hd @Tryd.results59 ?_
      try exact True.intro
    · have e4 : (sh != 0) = true := by simpa using c4
      rw [if_pos ⟨c3, c4⟩]
      refine gPA (aI @h0 <|aI @hm <|aI @ints_length <|aI @e3 <|@e4) ?_
      refine cnd (fun h => ?_) (fun h => ?_)
      · refine gP @Nat.zero_add ?_
        refine rP hd @Tryd.results59 ?_
        try exact True.intro
      · simp at h
  · have e3 : (((a.length : Nat) : Int) == 0) = false := by rw [beq_eq_false_iff_ne]; omega
    rw [if_neg (fun e => c3 e.1)]
    refine gPA (aI @h0 <|aI @hm <|aI @ints_length <|@e3) ?_
    refine cnd (fun h => ?_) (fun h => ?_)
    · simp at h
    refine gP @Nat.zero_add ?_
    refine rP hd @Tryd.results59 ?_
    try exact True.intro
theorem P60 (a : List Int) (sh : Int) : Ans X 60 [.agg [.sl (ints a), vi sh]] (.ret (vi (chkP a sh))) := by
  refine call_of_X (fn := Tryd.f60) 1 Tryd.func60 rfl (by decide +kernel) rfl ?_ ?_ ?_ ?_
  · rfl
  · exact fun _ => rfl
  · intro v hv; injection hv with hv; subst hv; rfl
  intro s hs hd ho
  have hm : s.m = ⟨.nil, []⟩ := by subst hs; rfl
  have h0 : s.t.get 0 = .agg [.sl (ints a), vi sh] := by subst hs; rfl
  clear hs
  refine gPA (aI @h0 <|aI @hm <|aI @co74 <|aI @sr74 <|((P74 a).iffx)) ?_
  refine cnd (fun h => ?_) (fun h => ?_)
  · have h : chk a ≠ 0 := by simpa using h
    refine gP @Nat.zero_add ?_
    refine rP hd @Tryd.results60 ?_
    try exact True.intro
    rw [chkP, if_pos h]
  have hc : chk a = 0 := by simpa using h
  rw [chkP, if_neg (fun e => e hc)]
  clear h
  by_cases c1 : sh < -64
  · rw [if_pos (.inl c1)]
    refine gPA (aI @h0 <|aI @hm <|@c1) ?_
    refine cnd (fun h => ?_) (fun h => ?_)
    · refine gP @Nat.zero_add ?_
      refine rP hd @Tryd.results60 ?_
      try exact True.intro
    · simp at h
  by_cases c2 : sh > 64
  · rw [if_pos (.inr c2)]
    refine gPA (aI @h0 <|aI @hm <|aI @c1 <|@c2) ?_
    refine cnd (fun h => ?_) (fun h => ?_)
    · refine gP @Nat.zero_add ?_
      refine rP hd @Tryd.results60 ?_
      try exact True.intro
    · simp at h
  rw [if_neg (by omega)]
  refine gPA (aI @h0 <|aI @hm <|aI @c1 <|aI @c2 <|@ints_length) ?_
  refine cnd (fun h => ?_) (fun h => ?_)
  · simp at h
  clear h
  by_cases c3 : a.length = 0
  · have e3 : (((a.length : Nat) : Int) == 0) = true := by rw [c3]; rfl
    by_cases c4 : sh = 0
    · have e4 : (sh != 0) = false := by rw [c4]; rfl
      rw [if_neg (fun e => e.2 c4)]
      refine gPA (aI @h0 <|aI @hm <|aI @ints_length <|aI @e3 <|@e4) ?_
      refine cnd (fun h => ?_) (fun h => ?_)
      · simp at h
      refine gP @Nat.zero_add ?_
      refine rP hd @Tryd.results60 ?_
      try exact True.intro
    · have e4 : (sh != 0) = true := by simpa using c4
      rw [if_pos ⟨c3, c4⟩]
      refine gPA (aI @h0 <|aI @hm <|aI @ints_length <|aI @e3 <|@e4) ?_
      refine cnd (fun h => ?_) (fun h => ?_)
      · refine gP @Nat.zero_add ?_
        refine rP hd @Tryd.results60 ?_
        try exact True.intro
      · simp at h
  · have e3 : (((a.length : Nat) : Int) == 0) = false := by rw [beq_eq_false_iff_ne]; omega
    rw [if_neg (fun e => c3 e.1)]
    refine gPA (aI @h0 <|aI @hm <|aI @ints_length <|@e3) ?_
    refine cnd (fun h => ?_) (fun h => ?_)
    · simp at h
    refine gP @Nat.zero_add ?_
    refine rP hd @Tryd.results60 ?_
    try exact True.intro
end Go.Proofs.YtpocekfifokndaaDoor
namespace Go.Proofs.YtpocekfifokndaaDoor
open Go Go.Ev Go.Pl
set_option maxRecDepth 100000
set_option maxHeartbeats 4000000
theorem ap2 {a b c : Nat} (h : a ≤ b) (h2 : b < c) : a < c := Nat.lt_of_le_of_lt h h2
def plcV (p : List Int × Int) : V := .agg [.sl (ints p.1), vi p.2]
def plcsV (l : List (List Int × Int)) : List V := l.map plcV
theorem plcsV_length (l : List (List Int × Int)) : (plcsV l).length = l.length := by simp [plcsV]
theorem plcsV_get {l : List (List Int × Int)} {i : Nat} {p : List Int × Int} (h : l[i]? = some p) : (plcsV l)[i]? = some (.agg [.sl (ints p.1), vi p.2]) := by
  rw [plcsV, List.getElem?_map, h]; rfl
def valN (p : List Int × Int) : Nat := numI p.1 * 60 ^ (p.2 + 64).toNat
def sumN (l : List (List Int × Int)) : Nat := (l.map valN).sum
def ferr : List (List Int × Int) → Int
  | [] => 0
  | p :: l => if chkP p.1 p.2 ≠ 0 then chkP p.1 p.2 else ferr l
def sumS (l : List (List Int × Int)) : List Nat × Int × Int :=
  if 64 < l.length then ([], 0, 3) else if ferr l ≠ 0 then ([], 0, ferr l) else
  if goodP (sumN l) (-64) then (digB (sumN l), if sumN l = 0 then 0 else -64 + (vz (sumN l) : Int), 0) else ([], 0, 3)
theorem chkP_ok {a : List Int} {sh : Int} (h : chkP a sh = 0) : chk a = 0 ∧ -64 ≤ sh ∧ sh ≤ 64 := by
  unfold chkP at h
  by_cases c : chk a = 0
  · rw [if_neg (fun e => e c)] at h
    by_cases c2 : sh < -64 ∨ 64 < sh
    · rw [if_pos c2] at h; exact absurd h (by decide)
    · exact ⟨c, by omega⟩
  · rw [if_pos c] at h; exact absurd h c
theorem ferr_all : ∀ {l : List (List Int × Int)}, ferr l = 0 → ∀ p ∈ l, chkP p.1 p.2 = 0
  | [], _, p, hp => by simp at hp
  | q :: l, h, p, hp => by
    rw [ferr] at h
    by_cases c : chkP q.1 q.2 = 0
    · rw [if_neg (fun e => e c)] at h
      rcases List.mem_cons.1 hp with rfl | hp
      · exact c
      · exact ferr_all h p hp
    · rw [if_pos c] at h; exact absurd h c
theorem valN_lt {p : List Int × Int} (h : chkP p.1 p.2 = 0) : valN p < 60 ^ 144 := by
  obtain ⟨hc, h1, h2⟩ := chkP_ok h
  have hN := numI_lt hc
  calc valN p < 60 ^ 16 * 60 ^ (p.2 + 64).toNat := Nat.mul_lt_mul_of_pos_right hN (pow_pos _)
    _ ≤ 60 ^ 16 * 60 ^ 128 := Nat.mul_le_mul_left _ (Nat.pow_le_pow_right (by decide) (by omega))
    _ = 60 ^ 144 := by rw [← Nat.pow_add]
theorem sumN_le : ∀ {l : List (List Int × Int)}, (∀ p ∈ l, chkP p.1 p.2 = 0) → sumN l ≤ l.length * 60 ^ 144
  | [], _ => by simp [sumN]
  | p :: l, h => by
    have h1 := valN_lt (h p List.mem_cons_self)
    have h2 := sumN_le (l := l) (fun q hq => h q (List.mem_cons_of_mem _ hq))
    have e : sumN (p :: l) = valN p + sumN l := by simp [sumN]
    rw [e, List.length_cons, Nat.succ_mul]
    omega
theorem sumN_take {l : List (List Int × Int)} {i : Nat} {p : List Int × Int} (h : l[i]? = some p) : sumN (l.take (i + 1)) = sumN (l.take i) + valN p := by
  unfold sumN
  rw [List.take_add_one, h]
  simp
theorem P119 (l : List (List Int × Int)) (hl : l.length ≤ 64) (hok : ∀ p ∈ l, chkP p.1 p.2 = 0) (r : Res) (hr : placeRes (sumN l * 60 ^ 8) = r) (o1 oM : Go.Ev.Rows)
    (hA : (⟨oM, []⟩ : Mem).row ⟨0, 1, 0, 1⟩ = some ⟨1, 64, false, false, [.sl (plcsV l)]⟩)
    (hR : (∃ es sh, r = .ret (.agg [.sl (nats es), vi sh])) ∨ (r = .panic (.ifc 23 (vi 3)))) :
    AnsAt X 119 [.ptr ⟨0, 1, 0, 1⟩ 0 0] [o1, oM] r := by
  refine ⟨rfl, rfl, fun v hv => ?_, ?_⟩
  · rcases hR with ⟨es, sh, rfl⟩ | rfl
    · injection hv with hv; subst hv; rfl
    · cases hv
  refine runsAt_of (X := X) (fn := Tryd.f119) Tryd.func119 rfl ⟨by decide +kernel, Nat.le_of_ble_eq_true rfl⟩ ?_
  have hd : (enter [V.ptr ⟨0, 1, 0, 1⟩ 0 0] [o1, oM]).dfs = [] := rfl
  have h0 : (enter [V.ptr ⟨0, 1, 0, 1⟩ 0 0] [o1, oM]).t.get 0 = .ptr ⟨0, 1, 0, 1⟩ 0 0 := rfl
  have hm : (enter [V.ptr ⟨0, 1, 0, 1⟩ 0 0] [o1, oM]).m = ⟨.nil, [o1, oM]⟩ := rfl
  generalize enter [V.ptr ⟨0, 1, 0, 1⟩ 0 0] [o1, oM] = s at *
  have hA' : (⟨.nil, [o1, oM]⟩ : Mem).row ⟨0, 1, 0, 1⟩ = some ⟨1, 64, false, false, [.sl (plcsV l)]⟩ := by rw [row_outer _ _ _ _ (by simp), row_outer _ _ _ _ (by simp), hA]
  refine gPAW (aI @h0 <|aI @hm <|aI @hA' <|@plcsV_length) ?_
  refine W_loopg (fun (k : Nat) s => s.dfs = [] ∧ s.m.out = [o1, oM] ∧ s.t.get 1 = .ptr ⟨2, 1, 0, 1⟩ 0 0 ∧ s.t.get 2 = .ptr ⟨2, 2, 0, 1⟩ 0 0 ∧ s.t.get 5 = .sl (plcsV l) ∧ s.t.get 6 = vn l.length ∧ s.t.get 7 = vn k ∧
    s.m.row ⟨2, 1, 0, 1⟩ = some ⟨1, 54, false, false, [.agg [.rs ⟨2, 1, 1, 1⟩ 0 0 0, vi 0]]⟩ ∧ s.m.row ⟨2, 2, 0, 1⟩ = some ⟨1, 100, false, false, [wv (sumN (l.take k) * 60 ^ 8)]⟩ ∧ k ≤ l.length) (fun k => l.length - k) 0 ?_ ?_
  · refine ⟨hd, ?_, ?_, ?_, ?_, ?_, ?_, ?_, ?_, Nat.zero_le _⟩
    all_goals (try refine fW (aI @hm <|@hA') ?_);all_goals try exact True.intro
    all_goals first | rfl | (refine wrow fun i _ => ?_; simp [sumN, dig])
  clear hd h0 hm hA' hA
  rintro k s ⟨hd, ho, h1, h2, h5, h6, h7, r1, r2, hk⟩
  refine gP (aI @h6 <|@h7) ?_
  refine cnd (fun h => ?_) (fun h => ?_)
  · have hk' : k < l.length := by have := of_decide_eq_true h; omega
    clear h
    obtain ⟨p, hp⟩ : ∃ p, l[k]? = some p := ⟨l[k], by simp⟩
    have hpk := hok p (List.mem_of_getElem? hp)
    obtain ⟨hc, hs1, hs2⟩ := chkP_ok hpk
    obtain ⟨b1, b2, b3, b4, _⟩ := chk_ok hc
    have hg := plcsV_get hp
    rw [b1] at hg
    obtain ⟨t, ht⟩ : ∃ t : Nat, (t : Int) = p.2 + 64 := ⟨(p.2 + 64).toNat, by omega⟩
    have q86 := P86 (natsOf p.1) p.2 (t + 8) (by omega) b2 (by omega)
    have hv : numL (natsOf p.1).reverse * 60 ^ (t + 8) = valN p * 60 ^ 8 := by
      rw [valN, ← ht, Int.toNat_natCast, Nat.pow_add, Nat.mul_assoc]; rfl
    rw [hv] at q86
    have q120 := P120 (sumN (l.take k) * 60 ^ 8) (valN p * 60 ^ 8)
    rw [← Nat.add_mul, ← sumN_take hp] at q120
    have hk1 : (k : Int) < (l.length : Int) := by omega
    have hk0 : (0 : Int) ≤ (k : Int) := by omega
    have e1 : V.int .i64 (wr .i64 ((k : Int) + 1)) = vn (k + 1) := by rw [wr_i64 (by omega) (by omega)]; rfl
    clear b1 b2 b3 b4 hc hpk ht hv
    refine gPASW (aI @h1 <|aI @h2 <|aI @h5 <|aI @h6 <|aI @h7 <|aI @r1 <|aI @r2 <|aI @ho <|aI @hg <|aI @hk1 <|aI @hk0 <|aI @plcsV_length <|aI @co86 <|aI @sr86 <|aI @q86.iffx <|aI @co120 <|aI @sr120 <|aI @q120.iffx <|aI @rowsOf_aggl <|aI @ptrs_aggl <|@e1) ?_
    refine ⟨k + 1, ⟨hd, ?_, ?_, ?_, ?_, ?_, ?_, ?_, ?_, hk'⟩, by omega⟩
    all_goals (try refine fW (aI @h1 <|aI @h2 <|aI @h5 <|aI @h6 <|aI @r1 <|aI @r2 <|@ho) ?_);all_goals try exact True.intro
    simp [Mem.new, Mem.set, ho]
  · have hkl : k = l.length := by have := of_decide_eq_false h; omega
    subst hkl
    rw [List.take_length] at r2
    have hb := sumN_le hok
    have hlt : sumN l * 60 ^ 8 < 60 ^ 168 := by
      have h1 : sumN l ≤ 64 * 60 ^ 144 := Nat.le_trans hb (Nat.mul_le_mul_right _ hl)
      exact Nat.lt_of_le_of_lt (Nat.mul_le_mul_right _ h1) (by decide)
    have q := P81 _ hlt
    rw [hr] at q
    clear h hlt hb hok hr
    rcases hR with ⟨es, sh, rfl⟩ | rfl
    · refine gPASW (aI @h1 <|aI @h2 <|aI @r1 <|aI @r2 <|aI @ho <|aI @co81 <|aI @sr81 <|@q.iffx) ?_
      refine fin_ret (X := X) (fn := Tryd.f119) (vs := [.agg [.sl (nats es), vi sh]]) hd ?_ ?_ ?_
      · simp (maxSteps := 2000000) (disch := omega) only [SA, ofValue, ofCell, bin, intBin, un, idx, Go.Ev.builtin, calleeOf, V.isNilS, V.depthOk, depth1, V.ok1, V.isAgg, V.cells, isConst, Nat.reduceBEq, Nat.reduceEqDiff, ↓reduceIte, Nat.reduceLeDiff, Nat.reduceAdd, Nat.reduceMul, Nat.reduceSub, Nat.reduceLT, Int.reduceAdd, Int.reduceSub, Int.reduceMul, Int.reduceLT, Int.reduceLE, Int.reduceToNat, Int.reduceNeg, reduceIte, reduceCtorEq, SPx, SAx, Tryd.results119, resVars, resVar, h1, r1, ho]
      · simp (maxSteps := 2000000) (disch := omega) only [SA, ofValue, ofCell, bin, intBin, un, idx, Go.Ev.builtin, calleeOf, V.isNilS, V.depthOk, depth1, V.ok1, V.isAgg, V.cells, isConst, Nat.reduceBEq, Nat.reduceEqDiff, ↓reduceIte, Nat.reduceLeDiff, Nat.reduceAdd, Nat.reduceMul, Nat.reduceSub, Nat.reduceLT, Int.reduceAdd, Int.reduceSub, Int.reduceMul, Int.reduceLT, Int.reduceLE, Int.reduceToNat, Int.reduceNeg, reduceIte, reduceCtorEq, SPx, SAx, resOf, X_own]
      · refine (frzR_own (fun r ty off len hm => ?_)).trans ?_
        · simp [resOf, leaves, leaves2] at hm
        · simp [Mem.new, Mem.set, ho]
    · refine gPASW (aI @h1 <|aI @h2 <|aI @r1 <|aI @r2 <|aI @ho <|aI @co81 <|aI @sr81 <|@q.panicsx) ?_
      refine fin_panic hd rfl ?_
      simp [Mem.new, Mem.set, ho]
theorem P55 (l : List (List Int × Int)) : Ans X 55 [.sl (plcsV l)] (.ret (.tup [.agg [.sl (nats (sumS l).1), vi (sumS l).2.1], vi (sumS l).2.2])) := by
  refine call_of_X (fn := Tryd.f55) 1 Tryd.func55 rfl (by decide +kernel) rfl ?_ ?_ ?_ ?_
  · rfl
  · intro h; exact absurd h (by rw [sr55]; decide)
  · intro v hv; injection hv with hv; subst hv; rfl
  intro s hs hd ho
  have hm : s.m = ⟨.nil, []⟩ := by subst hs; rfl
  have h0 : s.t.get 0 = .sl (plcsV l) := by subst hs; rfl
  clear hs
  by_cases c1 : (l.length : Int) > 64
  · refine gPA (aI @h0 <|aI @hm <|aI @plcsV_length <|@c1) ?_
    refine cnd (fun h => ?_) (fun h => ?_)
    · refine gPA @hm ?_
      refine rPAS hd (aI @Tryd.results55 <|@hm) ?_
      try exact True.intro
      rw [sumS, if_pos (by omega)]; rfl
    · simp at h
  have hl : l.length ≤ 64 := by omega
  rw [sumS, if_neg (by omega)]
  refine gPA (aI @h0 <|aI @hm <|aI @plcsV_length <|@c1) ?_
  refine cnd (fun h => ?_) (fun h => ?_)
  · simp at h
  clear h
  refine gPA (aI @h0 <|aI @hm <|@plcsV_length) ?_
  refine W_loopg (fun (k : Nat) s => s.dfs = [] ∧ s.m.out = [] ∧ s.t.get 1 = .ptr ⟨0, 1, 0, 1⟩ 0 0 ∧ s.t.get 2 = .ptr ⟨0, 2, 0, 1⟩ 0 0 ∧ s.t.get 11 = .sl (plcsV l) ∧ s.t.get 12 = vn l.length ∧ s.t.get 13 = vn k ∧
    s.m.row ⟨0, 1, 0, 1⟩ = some ⟨1, 64, false, false, [.sl (plcsV l)]⟩ ∧ s.m.row ⟨0, 2, 0, 1⟩ = some ⟨1, 54, false, false, [.agg [.rs ⟨0, 2, 1, 1⟩ 0 0 0, vi 0]]⟩ ∧ k ≤ l.length ∧ ferr l = ferr (l.drop k)) (fun k => l.length - k) 0 ?_ ?_
  · refine ⟨hd, ?_, ?_, ?_, ?_, ?_, ?_, ?_, ?_, Nat.zero_le _, rfl⟩
    all_goals (try refine f0 (aI @h0 <|@hm) ?_);all_goals try exact True.intro
    all_goals rfl
  clear hd h0 hm ho
  rintro k s ⟨hd, ho, h1, h2, h11, h12, h13, r1, r2, hk, hf⟩
  refine gP (aI @h12 <|@h13) ?_
  refine cnd (fun h => ?_) (fun h => ?_)
  · have hk' : k < l.length := by have := of_decide_eq_true h; omega
    clear h
    obtain ⟨p, hp⟩ : ∃ p, l[k]? = some p := ⟨l[k], by simp⟩
    have hg := plcsV_get hp
    have q := P59 p.1 p.2
    have hk1 : (k : Int) < (l.length : Int) := by omega
    have hk0 : (0 : Int) ≤ (k : Int) := by omega
    have e1 : V.int .i64 (wr .i64 ((k : Int) + 1)) = vn (k + 1) := by rw [wr_i64 (by omega) (by omega)]; rfl
    have hdrop : l.drop k = p :: l.drop (k + 1) := by
      rw [List.drop_eq_getElem_cons hk']
      congr 1
      rw [List.getElem?_eq_getElem hk'] at hp
      exact Option.some.inj hp
    rw [hdrop, ferr] at hf
    refine gPAS (aI @h1 <|aI @h2 <|aI @h11 <|aI @h12 <|aI @h13 <|aI @r1 <|aI @r2 <|aI @ho <|aI @hg <|aI @hk1 <|aI @hk0 <|aI @plcsV_length <|aI @co59 <|aI @sr59 <|@q.iffx) ?_
    refine cnd (fun h => ?_) (fun h => ?_)
    · have h : chkP p.1 p.2 ≠ 0 := by simpa using h
      rw [if_pos h] at hf
      refine gPA (aI @h1 <|aI @h2 <|aI @r2 <|@ho) ?_
      refine rPAS hd (aI @Tryd.results55 <|aI @h2 <|aI @r2 <|@ho) ?_
      try exact True.intro
      rw [hf]; rfl
    · have h : chkP p.1 p.2 = 0 := by simpa using h
      rw [if_neg (fun e => e h)] at hf
      refine gP (aI @h13 <|@e1) ?_
      refine ⟨k + 1, ⟨hd, ?_, ?_, ?_, ?_, ?_, ?_, ?_, ?_, hk', hf⟩, by omega⟩
      all_goals (try refine f0 (aI @h1 <|aI @h2 <|aI @h11 <|aI @h12 <|aI @r1 <|aI @r2 <|@ho) ?_);all_goals try exact True.intro
      simp [Mem.new, Mem.set, ho]
  · have hkl : k = l.length := by have := of_decide_eq_false h; omega
    subst hkl
    rw [List.drop_length, ferr] at hf
    rw [if_neg (fun e => e hf)]
    have hok := ferr_all hf
    have key : ∀ (m : Mem) (dst : Nat) (K KP : V → Mem → Prop), m.out = [] → m.row ⟨0, 1, 0, 1⟩ = some ⟨1, 64, false, false, [.sl (plcsV l)]⟩ →
        (CallQ X 118 [vi 0, .fn 119 [] [.ptr ⟨0, 1, 0, 1⟩ 0 0]] m dst K KP ↔ K (.tup [.agg [.sl (nats (if goodP (sumN l) (-64) then (digB (sumN l), if sumN l = 0 then 0 else -64 + (vz (sumN l) : Int), 0) else ([], 0, 3) : List Nat × Int × Int).1), vi (if goodP (sumN l) (-64) then (digB (sumN l), if sumN l = 0 then 0 else -64 + (vz (sumN l) : Int), 0) else ([], 0, 3) : List Nat × Int × Int).2.1], vi (if goodP (sumN l) (-64) then (digB (sumN l), if sumN l = 0 then 0 else -64 + (vz (sumN l) : Int), 0) else ([], 0, 3) : List Nat × Int × Int).2.2]) m) := by
      rintro ⟨own, out⟩ dst K KP ho r1
      dsimp only at ho
      subst ho
      have hpr := placeRes_at (sumN l) 8 (-64) rfl
      by_cases c : goodP (sumN l) (-64)
      · rw [if_pos c] at hpr ⊢
        exact AnsAt.iff (m := ⟨own, []⟩) (M118 119 _ own _ rfl co119 sr119 (fun o1 => P119 l hl hok _ hpr o1 own r1 (.inl ⟨_, _, rfl⟩)) _ (.inl ⟨_, _, rfl, rfl⟩))
      · rw [if_neg c] at hpr ⊢
        exact AnsAt.iff (m := ⟨own, []⟩) (M118 119 _ own _ rfl co119 sr119 (fun o1 => P119 l hl hok _ hpr o1 own r1 (.inr rfl)) _ (.inr ⟨3, rfl, rfl⟩))
    generalize (if goodP (sumN l) (-64) then (digB (sumN l), if sumN l = 0 then 0 else -64 + (vz (sumN l) : Int), 0) else ([], 0, 3) : List Nat × Int × Int) = R at *
    clear h hok hf
    refine gP @Nat.zero_add ?_
    with_reducible refine W_region_k ?_
    intro K hK
    simp (maxSteps := 2000000) (disch := omega) only [SA, ofValue, ofCell, bin, intBin, un, idx, Go.Ev.builtin, calleeOf, V.isNilS, V.depthOk, depth1, V.ok1, V.isAgg, V.cells, isConst, Nat.reduceBEq, Nat.reduceEqDiff, ↓reduceIte, Nat.reduceLeDiff, Nat.reduceAdd, Nat.reduceMul, Nat.reduceSub, Nat.reduceLT, Int.reduceAdd, Int.reduceSub, Int.reduceMul, Int.reduceLT, Int.reduceLE, Int.reduceToNat, Int.reduceNeg, reduceIte, reduceCtorEq, SPx, SAx, h1, h2, r1, r2, ho, co118, sr118]
    rw [key _ _ _ _ ho r1]
    simp (maxSteps := 2000000) (disch := omega) only [SA, ofValue, ofCell, bin, intBin, un, idx, Go.Ev.builtin, calleeOf, V.isNilS, V.depthOk, depth1, V.ok1, V.isAgg, V.cells, isConst, Nat.reduceBEq, Nat.reduceEqDiff, ↓reduceIte, Nat.reduceLeDiff, Nat.reduceAdd, Nat.reduceMul, Nat.reduceSub, Nat.reduceLT, Int.reduceAdd, Int.reduceSub, Int.reduceMul, Int.reduceLT, Int.reduceLE, Int.reduceToNat, Int.reduceNeg, reduceIte, reduceCtorEq, SPx, SAx, h2, r2, ho]
    refine hK _ _ ?_
    clear hK K
    refine gP @Nat.zero_add ?_
    refine rPA hd (aI @Tryd.results55 <|aI @h2 <|aI @r2 <|@ho) ?_
    try exact True.intro
end Go.Proofs.YtpocekfifokndaaDoor
namespace Go.Proofs.YtpocekfifokndaaDoor
open Go Go.Ev Go.Pl
set_option maxRecDepth 100000
set_option maxHeartbeats 4000000
def ofS (n : Int) : List Nat × Int := if n < 0 ∨ 1099511627776 < n then ([], 8) else (digB n.toNat, 0)
theorem P36 (n : Int) : Ans X 36 [vi n] (.ret (.tup [.sl (nats (ofS n).1), vi (ofS n).2])) := by
  refine call_of_X (fn := Tryd.f36) 1 Tryd.func36 rfl (by decide +kernel) rfl ?_ ?_ ?_ ?_
  · rfl
  · intro h; exact absurd h (by rw [sr36]; decide)
  · intro v hv; injection hv with hv; subst hv; rfl
  intro s hs hd ho
  have hm : s.m = ⟨.nil, []⟩ := by subst hs; rfl
  have h0 : s.t.get 0 = vi n := by subst hs; rfl
  clear hs
  by_cases c1 : n < 0
  · refine gP (aI @h0 <|aI @hm <|@c1) ?_
    refine cnd (fun h => ?_) (fun h => ?_)
    · refine gP @hm ?_
      refine rPAS hd (aI @Tryd.results36 <|@hm) ?_
      try exact True.intro
      rw [ofS, if_pos (.inl c1)]; rfl
    · simp at h
  by_cases c2 : n > 1099511627776
  · refine gP (aI @h0 <|aI @hm <|aI @c1 <|@c2) ?_
    refine cnd (fun h => ?_) (fun h => ?_)
    · refine gP @hm ?_
      refine rPAS hd (aI @Tryd.results36 <|@hm) ?_
      try exact True.intro
      rw [ofS, if_pos (.inr c2)]; rfl
    · simp at h
  obtain ⟨k, rfl⟩ : ∃ k : Nat, n = k := ⟨n.toNat, by omega⟩
  have hk16 : k < 60 ^ 16 := by omega
  have q1 := P88 k (by omega)
  have q2 := P81 (k * 60 ^ 72) (by
    calc k * 60 ^ 72 < 60 ^ 16 * 60 ^ 72 := Nat.mul_lt_mul_of_pos_right hk16 (by decide)
      _ ≤ 60 ^ 168 := by decide)
  rw [placeRes_whole hk16] at q2
  rw [ofS, if_neg (by omega), Int.toNat_natCast]
  clear hk16
  refine gP (aI @h0 <|aI @hm <|aI @c1 <|@c2) ?_
  refine cnd (fun h => ?_) (fun h => ?_)
  · simp at h
  refine gPAW (aI @h0 <|aI @hm <|aI @co88 <|aI @sr88 <|aI @co81 <|aI @sr81 <|aI @q1.iffx <|@q2.iffx) ?_
  refine rP hd @Tryd.results36 ?_
  try exact True.intro
theorem int_step (N j : Nat) (hj : 0 < j) : N / 60 ^ (j - 1) = N / 60 ^ j * 60 + dig N (j - 1) := by
  have := div_succ N (j - 1)
  rwa [show j - 1 + 1 = j by omega] at this
theorem P105 (N : Nat) (hN : N < 60 ^ 168) : Ans X 105 [wv N, vi 1099511627776] (.ret (.tup (if N / 60 ^ 72 ≤ 1099511627776 then [vn (N / 60 ^ 72), .bool true] else [vi 0, .bool false]))) := by
  refine call_of_X (fn := Tryd.f105) 2 Tryd.func105 rfl (by decide +kernel) rfl ?_ ?_ ?_ ?_
  · simp only [List.any_cons, List.any_nil, wv_refs]; rfl
  · intro _; split <;> rfl
  · intro v hv; injection hv with hv; subst hv; split <;> rfl
  intro s hs hd ho
  have hm : s.m = ⟨.nil, []⟩ := by subst hs; rfl
  have h0 : s.t.get 0 = .agg (wc (dig N)) := by subst hs; rfl
  have h1 : s.t.get 1 = vi 1099511627776 := by subst hs; rfl
  clear hs
  refine gPW (aI @h0 <|aI @h1 <|@hm) ?_
  refine W_loopg (fun (j : Nat) s => s.dfs = [] ∧ s.m.out.length = 0 ∧ s.t.get 1 = vi 1099511627776 ∧ s.t.get 2 = .ptr ⟨0, 2, 0, 1⟩ 0 0 ∧ s.t.get 6 = vn (N / 60 ^ j) ∧ s.t.get 7 = vn (j - 1) ∧
    s.m.row ⟨0, 2, 0, 1⟩ = some ⟨1, 100, false, false, [.agg (wc (dig N))]⟩ ∧ 72 ≤ j ∧ j ≤ 168 ∧ N / 60 ^ j ≤ 1099511627776) (fun j => j) 168 ?_ ?_
  · have hz : N / 60 ^ 168 = 0 := Nat.div_eq_of_lt hN
    rw [hz]
    refine ⟨hd, ?_, ?_, ?_, ?_, ?_, ?_, by decide, Nat.le_refl _, Nat.zero_le _⟩
    all_goals (try refine fW (aI @h0 <|aI @h1 <|@hm) ?_);all_goals try exact True.intro
    all_goals rfl
  clear hd ho hm h0 h1 hN
  rintro j s ⟨hd, ho, h1, h2, h6, h7, r2, hj1, hj2, hle⟩
  refine gP @h7 ?_
  refine cnd (fun h => ?_) (fun h => ?_)
  · have hj : 73 ≤ j := by have := of_decide_eq_true h; omega
    clear h
    have hst := int_step N j (by omega)
    have hd60 := dig_lt N (j - 1)
    have hmono : N / 60 ^ (j - 1) ≤ N / 60 ^ 72 := by
      have e : (60 : Nat) ^ (j - 1) = 60 ^ 72 * 60 ^ (j - 1 - 72) := by rw [← Nat.pow_add]; congr 1; omega
      rw [e, ← Nat.div_div_eq_div_mul]; exact Nat.div_le_self _ _
    generalize N / 60 ^ j = q at *
    generalize hdg : dig N (j - 1) = d at *
    have hidx : j - 1 < 168 := by omega
    have hi0 : (0 : Int) ≤ ((j - 1 : Nat) : Int) := by omega
    have hi1 : ((j - 1 : Nat) : Int) < (168 : Int) := by omega
    have hi2 : ((j - 1 : Nat) : Int) < ((168 : Nat) : Int) := by omega
    have hget : (wc (dig N))[j - 1]? = some (vn d) := by rw [wc_get _ hidx, hdg]
    have g1 : V.int .i64 (wr .i64 ((1099511627776 : Int) - d)) = vn (1099511627776 - d) := by rw [wr_i64 (by omega) (by omega)]; congr 1; omega
    have g2 : V.int .i64 (wr .i64 (Int.tdiv ((1099511627776 - d : Nat) : Int) 60)) = vn ((1099511627776 - d) / 60) := by rw [cast_tdiv60, wr_nat (by omega)]
    have g3 : V.int .i64 (wr .i64 ((q : Int) * 60)) = vn (q * 60) := by rw [cast_mul60, wr_nat (by omega)]
    have g5 : V.int .i64 (wr .i64 ((j - 1 : Nat) - (1 : Int))) = vn (j - 1 - 1) := by rw [wr_i64 (by omega) (by omega)]; congr 1; omega
    by_cases c : q > (1099511627776 - d) / 60
    · have c' : ((q : Nat) : Int) > (((1099511627776 - d) / 60 : Nat) : Int) := by omega
      rw [if_neg (by omega)]
      clear hst hmono hle
      repeat (first
        | with_reducible first | refine W_seq ?_ | refine W_skip ?_ | refine W_label ?_ | refine W_ret ?_ | refine W_exit ?_ | refine W_block ?_ | refine thenI ?_ | refine thenRet ?_ | refine thenExit ?_ | refine blockRet ?_ | refine blockI ?_ | refine blockExit ?_ | refine blockExitNe rfl ?_
        | (with_reducible refine W_region_k ?_
           intro K hK
           simp (maxSteps := 2000000) (disch := omega) only [SA, ofValue, ofCell, bin, intBin, un, idx, Go.Ev.builtin, calleeOf, V.isNilS, V.depthOk, depth1, V.ok1, V.isAgg, V.cells, isConst, Nat.reduceBEq, Nat.reduceEqDiff, ↓reduceIte, Nat.reduceLeDiff, Nat.reduceAdd, Nat.reduceMul, Nat.reduceSub, Nat.reduceLT, Int.reduceAdd, Int.reduceSub, Int.reduceMul, Int.reduceLT, Int.reduceLE, Int.reduceToNat, Int.reduceNeg, reduceIte, reduceCtorEq, SPx, SWx, h1, h2, h6, h7, r2, hidx, hi0, hi1, hi2, hget, Int.reduceEq, g1, g2, c']
           refine hK _ _ ?_
           clear hK K)
      )
      refine cnd (fun h => ?_) (fun h => ?_)
      · refine gP @Nat.zero_add ?_
        refine rP hd @Tryd.results105 ?_
        try exact True.intro
      · simp at h
    · have c' : ¬ ((q : Nat) : Int) > (((1099511627776 - d) / 60 : Nat) : Int) := by omega
      have hle2 : q * 60 + d ≤ 1099511627776 := by omega
      have g4 : V.int .i64 (wr .i64 (((q * 60 : Nat) : Int) + d)) = vn (N / 60 ^ (j - 1)) := by rw [cast_add, wr_nat (by omega), hst]
      have hm2 : j - 1 < j ∧ 72 ≤ j - 1 ∧ j - 1 ≤ 168 ∧ N / 60 ^ (j - 1) ≤ 1099511627776 := by omega
      clear hst hmono hle
      repeat (first
        | with_reducible first | refine W_seq ?_ | refine W_skip ?_ | refine W_label ?_ | refine W_ret ?_ | refine W_exit ?_ | refine W_block ?_ | refine thenI ?_ | refine thenRet ?_ | refine thenExit ?_ | refine blockRet ?_ | refine blockI ?_ | refine blockExit ?_ | refine blockExitNe rfl ?_
        | (with_reducible refine W_region_k ?_
           intro K hK
           simp (maxSteps := 2000000) (disch := omega) only [SA, ofValue, ofCell, bin, intBin, un, idx, Go.Ev.builtin, calleeOf, V.isNilS, V.depthOk, depth1, V.ok1, V.isAgg, V.cells, isConst, Nat.reduceBEq, Nat.reduceEqDiff, ↓reduceIte, Nat.reduceLeDiff, Nat.reduceAdd, Nat.reduceMul, Nat.reduceSub, Nat.reduceLT, Int.reduceAdd, Int.reduceSub, Int.reduceMul, Int.reduceLT, Int.reduceLE, Int.reduceToNat, Int.reduceNeg, reduceIte, reduceCtorEq, SPx, SWx, h1, h2, h6, h7, r2, hidx, hi0, hi1, hi2, hget, Int.reduceEq, g1, g2, c']
           refine hK _ _ ?_
           clear hK K)
      )
      refine cnd (fun h => ?_) (fun h => ?_)
      · simp at h
      refine gPW (aI @h1 <|aI @h2 <|aI @h6 <|aI @h7 <|aI @r2 <|aI @hidx <|aI @hi0 <|aI @hi1 <|aI @hi2 <|aI @hget <|aI @g3 <|aI @g4 <|@g5) ?_
      refine ⟨j - 1, ⟨hd, ?_, ?_, ?_, ?_, ?_, ?_, hm2.2.1, hm2.2.2.1, hm2.2.2.2⟩, hm2.1⟩
      all_goals (try refine f0 (aI @ho <|aI @h1 <|aI @h2 <|@r2) ?_);all_goals try exact True.intro
  · have hj : j = 72 := by have := of_decide_eq_false h; omega
    subst hj
    clear h
    rw [if_pos hle]
    clear hle
    refine gP @h6 ?_
    refine rP hd @Tryd.results105 ?_
    try exact True.intro
def whS (a : List Int) : Int × Int := if chk a ≠ 0 then (0, chk a) else if numI a ≤ 1099511627776 then ((numI a : Int), 0) else (0, 6)
theorem P43 (a : List Int) : Ans X 43 [.sl (ints a)] (.ret (.tup [vi (whS a).1, vi (whS a).2])) := by
  refine call_of_X (fn := Tryd.f43) 1 Tryd.func43 rfl (by decide +kernel) rfl ?_ ?_ ?_ ?_
  · rfl
  · exact fun _ => rfl
  · intro v hv; injection hv with hv; subst hv; rfl
  intro s hs hd ho
  have hm : s.m = ⟨.nil, []⟩ := by subst hs; rfl
  have h0 : s.t.get 0 = .sl (ints a) := by subst hs; rfl
  clear hs
  refine gP (aI @h0 <|aI @hm <|aI @co28 <|aI @sr28 <|((P28 a).iffx)) ?_
  refine cnd (fun h => ?_) (fun h => ?_)
  · have h : chk a ≠ 0 := by simpa using h
    refine gP @Nat.zero_add ?_
    refine rP hd @Tryd.results43 ?_
    try exact True.intro
    rw [whS, if_pos h]
  have hc : chk a = 0 := by simpa using h
  rw [whS, if_neg (fun e => e hc)]
  obtain ⟨b1, b2, b3, b4, _⟩ := chk_ok hc
  rw [b1] at h0
  have hb := numI_lt hc
  have q1 : Ans X 86 [.sl (nats (natsOf a)), vi 0] (.ret (wv (numI a * 60 ^ 72))) := P86 (natsOf a) 0 72 rfl b2 (by omega)
  have q2 := P105 (numI a * 60 ^ 72) (by
    calc numI a * 60 ^ 72 < 60 ^ 16 * 60 ^ 72 := Nat.mul_lt_mul_of_pos_right hb (by decide)
      _ ≤ 60 ^ 168 := by decide)
  rw [Nat.mul_div_cancel _ (pow_pos 72)] at q2
  clear h hb b1 b2 b3 b4
  by_cases c : numI a ≤ 1099511627776
  · rw [if_pos c] at q2 ⊢
    clear c
    refine gPW (aI @h0 <|aI @co86 <|aI @sr86 <|aI @co105 <|aI @sr105 <|aI @q1.iffx <|@q2.iffx) ?_
    refine cnd (fun h => ?_) (fun h => ?_)
    · simp at h
    refine gP @Nat.zero_add ?_
    refine rP hd @Tryd.results43 ?_
    try exact True.intro
  · rw [if_neg c] at q2 ⊢
    clear c
    refine gPW (aI @h0 <|aI @co86 <|aI @sr86 <|aI @co105 <|aI @sr105 <|aI @q1.iffx <|@q2.iffx) ?_
    refine cnd (fun h => ?_) (fun h => ?_)
    · refine gP @Nat.zero_add ?_
      refine rP hd @Tryd.results43 ?_
      try exact True.intro
    · simp at h
end Go.Proofs.YtpocekfifokndaaDoor
namespace Go.Proofs.YtpocekfifokndaaDoor
open Go Go.Ev Go.Pl
set_option maxRecDepth 100000
set_option maxHeartbeats 4000000
def ratF : List Nat → Nat → Nat → Option (Nat × Nat)
  | [], x, d => some (x, d)
  | p :: ps, x, d => if x % p = 0 then ratF ps (x / p) d else if 1048576 < d * p then none else ratF ps x (d * p)
def ratK : Nat → Nat → Nat → Option (Nat × Nat)
  | 0, x, d => some (x, d)
  | k + 1, x, d => (ratF [2, 2, 3, 5] x d).bind fun y => ratK k y.1 y.2
def ratE (r : Option (Nat × Nat)) : Nat × Nat × Int :=
  match r with
  | none => (0, 0, 6)
  | some y => if y.1 ≤ 1099511627776 then (y.1, y.2, 0) else (0, 0, 6)
def ratS (p : List Int × Int) : Nat × Nat × Int :=
  if chkP p.1 p.2 ≠ 0 then (0, 0, chkP p.1 p.2) else if p.1.length = 0 then (0, 1, 0) else ratE (ratK (-p.2).toNat (numI p.1 * 60 ^ p.2.toNat) 1)
abbrev P4l : List Nat := [2, 2, 3, 5]
theorem P4l_get {j : Nat} (h : j < 4) : ∃ p, P4l[j]? = some p ∧ 2 ≤ p ∧ p ≤ 5 ∧ P4l.drop j = p :: P4l.drop (j + 1) := by
  match j, h with
  | 0, _ => exact ⟨2, rfl, by decide, by decide, rfl⟩
  | 1, _ => exact ⟨2, rfl, by decide, by decide, rfl⟩
  | 2, _ => exact ⟨3, rfl, by decide, by decide, rfl⟩
  | 3, _ => exact ⟨5, rfl, by decide, by decide, rfl⟩
theorem P101w (x n : Nat) (hx : x < 60 ^ 96) (hn0 : 0 < n) (hn : n < 1000000000000) : Ans X 101 [wv (x * 60 ^ 72), vn n] (.ret (.tup [wv (x / n * 60 ^ 72), vn (x % n)])) := by
  have h := P101 (x * 60 ^ 72) n (by
    calc x * 60 ^ 72 < 60 ^ 96 * 60 ^ 72 := Nat.mul_lt_mul_of_pos_right hx (by decide)
      _ = 60 ^ 168 := by decide) hn0 hn
  rw [Nat.mul_div_cancel _ (by decide), Nat.mul_mod_left, Nat.add_zero] at h
  exact h
theorem P105w (x : Nat) (hx : x < 60 ^ 96) : Ans X 105 [wv (x * 60 ^ 72), vi 1099511627776] (.ret (.tup (if x ≤ 1099511627776 then [vn x, .bool true] else [vi 0, .bool false]))) := by
  have h := P105 (x * 60 ^ 72) (by
    calc x * 60 ^ 72 < 60 ^ 96 * 60 ^ 72 := Nat.mul_lt_mul_of_pos_right hx (by decide)
      _ = 60 ^ 168 := by decide)
  rw [Nat.mul_div_cancel _ (by decide)] at h
  exact h
theorem P61 (p : List Int × Int) : Ans X 61 [.agg [.sl (ints p.1), vi p.2]] (.ret (.tup [.agg [vn (ratS p).1, vn (ratS p).2.1], vi (ratS p).2.2])) := by
  refine call_of_X (fn := Tryd.f61) 1 Tryd.func61 rfl (by decide +kernel) rfl ?_ ?_ ?_ ?_
  · rfl
  · intro h; exact absurd h (by rw [sr61]; decide)
  · intro v hv; injection hv with hv; subst hv; rfl
  intro s hs hd ho
  have hm : s.m = ⟨.nil, []⟩ := by subst hs; rfl
  have h0 : s.t.get 0 = .agg [.sl (ints p.1), vi p.2] := by subst hs; rfl
  clear hs
  obtain ⟨a, sh⟩ := p
  dsimp only at h0
  refine gPA (aI @h0 <|aI @hm <|aI @co59 <|aI @sr59 <|((P59 a sh).iffx)) ?_
  refine cnd (fun h => ?_) (fun h => ?_)
  · have h : chkP a sh ≠ 0 := by simpa using h
    rw [ratS, if_pos h]
    refine gPA @hm ?_
    refine rPA hd (aI @Tryd.results61 <|@hm) ?_
    try exact True.intro
    rfl
  have hc : chkP a sh = 0 := by simpa using h
  rw [ratS, if_neg (fun e => e hc)]
  clear h
  dsimp only
  by_cases hl : a.length = 0
  · have e1 : (((a.length : Nat) : Int) == 0) = true := by rw [hl]; rfl
    rw [if_pos hl]
    refine gPA (aI @h0 <|aI @hm <|aI @ints_length <|@e1) ?_
    refine cnd (fun h => ?_) (fun h => ?_)
    · refine gPA @hm ?_
      refine rPA hd (aI @Tryd.results61 <|@hm) ?_
      try exact True.intro
      rfl
    · simp at h
  have e1 : (((a.length : Nat) : Int) == 0) = false := by rw [beq_eq_false_iff_ne]; omega
  rw [if_neg hl]
  refine gPA (aI @h0 <|aI @hm <|aI @ints_length <|@e1) ?_
  refine cnd (fun h => ?_) (fun h => ?_)
  · simp at h
  clear h
  obtain ⟨hk, hs1, hs2⟩ := chkP_ok hc
  obtain ⟨b1, b2, b3, b4, _⟩ := chk_ok hk
  obtain ⟨t, ht⟩ : ∃ t : Nat, (t : Int) = (if (0 : Int) > sh then 0 else sh) := ⟨sh.toNat, by split <;> omega⟩
  obtain ⟨u, hu⟩ : ∃ u : Nat, (u : Int) = 0 - (if (0 : Int) < sh then 0 else sh) := ⟨(-sh).toNat, by split <;> omega⟩
  have et : sh.toNat = t := by split at ht <;> omega
  have eu : (-sh).toNat = u := by split at hu <;> omega
  have ht64 : t ≤ 64 ∧ u ≤ 64 := by omega
  have q86 : Ans X 86 [.sl (ints a), vn t] (.ret (wv (numI a * 60 ^ (72 + t)))) := by
    rw [b1]
    exact P86 (natsOf a) t (72 + t) (by omega) b2 (by rw [b4]; omega)
  have hN := numI_lt hk
  rw [et, eu]
  have hx0 : numI a * 60 ^ t < 60 ^ 96 := by
    calc numI a * 60 ^ t < 60 ^ 16 * 60 ^ t := Nat.mul_lt_mul_of_pos_right hN (pow_pos t)
      _ = 60 ^ (16 + t) := (Nat.pow_add ..).symm
      _ ≤ 60 ^ 96 := Nat.pow_le_pow_right (by decide) (by omega)
  rw [show numI a * 60 ^ (72 + t) = numI a * 60 ^ t * 60 ^ 72 by rw [Nat.pow_add, Nat.mul_comm (60 ^ 72), Nat.mul_assoc]] at q86
  generalize numI a * 60 ^ t = x0 at *
  have wt : V.int .i64 (if (0 : Int) > sh then 0 else sh) = vn t := by rw [← ht]
  have wu : V.int .i64 (wr .i64 (0 - (if (0 : Int) < sh then 0 else sh))) = vn u := by rw [← hu, wr_nat (by omega)]
  have hR : ratE (ratK u x0 1) = ratE (ratK u x0 1) := rfl
  generalize hRR : ratE (ratK u x0 1) = R at hR ⊢
  clear b1 b2 b3 b4 hk hs1 hs2 et eu hN e1
  clear ht hu
  refine gPASW (aI @h0 <|aI @hm <|aI @wt <|aI @wu <|aI @co86 <|aI @sr86 <|@q86.iffx) ?_
  refine W_loopg (fun (w : Nat × Nat × Nat) s => s.dfs = [] ∧ s.m.out.length = 0 ∧ s.t.get 2 = .ptr ⟨0, 2, 0, 1⟩ 0 0 ∧ s.t.get 5 = .ptr ⟨0, 5, 0, 1⟩ 0 0 ∧ s.t.get 6 = vn w.2.2 ∧ s.t.get 33 = vn u ∧ s.t.get 34 = vn w.1 ∧
    s.m.row ⟨0, 2, 0, 1⟩ = some ⟨1, 76, false, false, [.agg [vi 0, vi 0]]⟩ ∧ s.m.row ⟨0, 5, 0, 1⟩ = some ⟨1, 100, false, false, [wv (w.2.1 * 60 ^ 72)]⟩ ∧
    w.1 ≤ u ∧ w.2.1 < 60 ^ 96 ∧ w.2.2 ≤ 1048576 ∧ ratE (ratK (u - w.1) w.2.1 w.2.2) = R) (fun w => u - w.1) (0, x0, 1) ?_ ?_
  · refine ⟨hd, ?_, ?_, ?_, ?_, ?_, ?_, ?_, ?_, Nat.zero_le _, hx0, by show 1 ≤ 1048576; omega, hRR⟩
    all_goals (try refine fW (aI @h0 <|@hm) ?_);all_goals try exact True.intro
    all_goals rfl
  clear hd ho h0 hm hRR hR q86 wt wu hx0 hc hl
  rintro ⟨k, x, d⟩ s ⟨hd, ho, h2, h5, h6, h33, h34, r2, r5, hk, hx, hdd, hR⟩
  dsimp only at h6 h34 r5 hk hx hdd hR
  refine gP (aI @h33 <|@h34) ?_
  refine cnd (fun h => ?_) (fun h => ?_)
  · have hku : k < u := by have := of_decide_eq_true h; omega
    clear h
    rw [show u - k = (u - (k + 1)) + 1 by omega, ratK] at hR
    refine gPA @Nat.zero_add ?_
    refine W_loopg (fun (w : Nat × Nat × Nat) s => s.dfs = [] ∧ s.m.out.length = 0 ∧ s.t.get 2 = .ptr ⟨0, 2, 0, 1⟩ 0 0 ∧ s.t.get 5 = .ptr ⟨0, 5, 0, 1⟩ 0 0 ∧ s.t.get 6 = vn w.2.2 ∧ s.t.get 33 = vn u ∧ s.t.get 34 = vn k ∧ s.t.get 36 = .agg (nats P4l) ∧ s.t.get 37 = vn w.1 ∧
      s.m.row ⟨0, 2, 0, 1⟩ = some ⟨1, 76, false, false, [.agg [vi 0, vi 0]]⟩ ∧ s.m.row ⟨0, 5, 0, 1⟩ = some ⟨1, 100, false, false, [wv (w.2.1 * 60 ^ 72)]⟩ ∧
      w.1 ≤ 4 ∧ w.2.1 < 60 ^ 96 ∧ w.2.2 ≤ 1048576 ∧ ratE ((ratF (P4l.drop w.1) w.2.1 w.2.2).bind fun y => ratK (u - (k + 1)) y.1 y.2) = R) (fun w => 4 - w.1) (0, x, d) ?_ ?_
    · refine ⟨hd, ?_, ?_, ?_, ?_, ?_, ?_, ?_, ?_, ?_, ?_, Nat.zero_le _, hx, hdd, hR⟩
      all_goals (try refine f0 (aI @h2 <|aI @h5 <|aI @h6 <|aI @h33 <|aI @h34 <|aI @r2 <|aI @r5 <|@ho) ?_);all_goals try exact True.intro
      all_goals rfl
    clear hd ho h2 h5 h6 h33 h34 r2 r5 hx hdd hR
    clear hk
    rintro ⟨j, x, d⟩ s ⟨hd, ho, h2, h5, h6, h33, h34, h36, h37, r2, r5, hj, hx, hdd, hR⟩
    dsimp only at h6 h37 r5 hj hx hdd hR
    refine gP @h37 ?_
    refine cnd (fun h => ?_) (fun h => ?_)
    · have hj4 : j < 4 := by have := of_decide_eq_true h; omega
      clear h
      obtain ⟨p, hp, hp2, hp5, hdrop⟩ := P4l_get hj4
      rw [hdrop, ratF] at hR
      have q1 := P101w x p hx (by omega) (by omega)
      have gp : (nats P4l)[j]? = some (vn p) := by rw [nats, List.getElem?_map, hp]; rfl
      have j1 : (j : Int) < 4 := by omega
      have j2 : (0 : Int) ≤ (j : Int) := by omega
      have w1 : V.int .i64 (wr .i64 ((d : Int) * p)) = vn (d * p) := by
        have hle : d * p ≤ 1048576 * 5 := Nat.mul_le_mul hdd hp5
        rw [show (d : Int) * p = ((d * p : Nat) : Int) from (Int.natCast_mul d p).symm, wr_nat (by omega)]
      have w2 : V.int .i64 (wr .i64 ((j : Int) + 1)) = vn (j + 1) := by rw [wr_i64 (by omega) (by omega)]; rfl
      clear hdrop hp
      refine gPASW (aI @h2 <|aI @h5 <|aI @h6 <|aI @h33 <|aI @h34 <|aI @h36 <|aI @h37 <|aI @r2 <|aI @r5 <|aI @ho <|aI @gp <|aI @j1 <|aI @j2 <|aI @co101 <|aI @sr101 <|@q1.iffx) ?_
      refine cnd (fun h => ?_) (fun h => ?_)
      · have h : x % p = 0 := by have h' := eq_of_beq h; omega
        rw [if_pos h] at hR
        have hx' : x / p < 60 ^ 96 := Nat.lt_of_le_of_lt (Nat.div_le_self _ _) hx
        clear h w1 q1 hx
        refine gPASW (aI @h2 <|aI @h5 <|aI @h6 <|aI @h33 <|aI @h34 <|aI @h36 <|aI @h37 <|aI @r2 <|aI @r5 <|aI @ho <|@w2) ?_
        refine ⟨(j + 1, x / p, d), ⟨hd, ?_, ?_, ?_, ?_, ?_, ?_, ?_, ?_, ?_, ?_, by show j + 1 ≤ 4; omega, hx', hdd, hR⟩, by show 4 - (j + 1) < 4 - j; omega⟩
        all_goals (try refine fW (aI @h2 <|aI @h5 <|aI @h6 <|aI @h33 <|aI @h34 <|aI @h36 <|aI @h37 <|aI @r2 <|aI @r5 <|@ho) ?_);all_goals try exact True.intro
      · have h : ¬ x % p = 0 := by have h' := ne_of_beq_false h; omega
        rw [if_neg h] at hR
        clear h q1
        refine gPASW (aI @h2 <|aI @h5 <|aI @h6 <|aI @h33 <|aI @h34 <|aI @h36 <|aI @h37 <|aI @r2 <|aI @r5 <|aI @ho <|@w1) ?_
        refine cnd (fun h => ?_) (fun h => ?_)
        · have h : 1048576 < d * p := by have h' := of_decide_eq_true h; omega
          rw [if_pos h] at hR
          subst hR
          clear h w1
          refine gPASW (aI @h2 <|aI @h5 <|aI @h6 <|aI @h33 <|aI @h34 <|aI @h36 <|aI @h37 <|aI @r2 <|aI @r5 <|@ho) ?_
          refine rPASW hd (aI @Tryd.results61 <|aI @h2 <|aI @h5 <|aI @h6 <|aI @h33 <|aI @h34 <|aI @h36 <|aI @h37 <|aI @r2 <|aI @r5 <|@ho) ?_
          try exact True.intro
          rfl
        · have h : ¬ 1048576 < d * p := by have h' := of_decide_eq_false h; omega
          rw [if_neg h] at hR
          refine gPASW (aI @h2 <|aI @h5 <|aI @h6 <|aI @h33 <|aI @h34 <|aI @h36 <|aI @h37 <|aI @r2 <|aI @r5 <|aI @ho <|aI @w1 <|@w2) ?_
          refine ⟨(j + 1, x, d * p), ⟨hd, ?_, ?_, ?_, ?_, ?_, ?_, ?_, ?_, ?_, ?_, by show j + 1 ≤ 4; omega, hx, by show d * p ≤ 1048576; omega, hR⟩, by show 4 - (j + 1) < 4 - j; omega⟩
          all_goals (try refine fW (aI @h2 <|aI @h5 <|aI @h6 <|aI @h33 <|aI @h34 <|aI @h36 <|aI @h37 <|aI @r2 <|aI @r5 <|@ho) ?_);all_goals try exact True.intro
    · have hj4 : j = 4 := by have := of_decide_eq_false h; omega
      subst hj4
      clear h
      have w2 : V.int .i64 (wr .i64 ((k : Int) + 1)) = vn (k + 1) := by rw [wr_i64 (by omega) (by omega)]; rfl
      refine gP (aI @h34 <|@w2) ?_
      refine ⟨(k + 1, x, d), ⟨hd, ?_, ?_, ?_, ?_, ?_, ?_, ?_, ?_, by show k + 1 ≤ u; omega, hx, hdd, hR⟩, by show u - (k + 1) < u - k; omega⟩
      all_goals (try refine f0 (aI @h2 <|aI @h5 <|aI @h6 <|aI @h33 <|aI @h34 <|aI @r2 <|aI @r5 <|@ho) ?_);all_goals try exact True.intro
  · have hku : k = u := by have := of_decide_eq_false h; omega
    subst hku
    clear h
    rw [Nat.sub_self, ratK, ratE] at hR
    have q1 := P105w x hx
    by_cases c : x ≤ 1099511627776
    · rw [if_pos c] at hR q1
      subst hR
      clear c hx
      refine gPASW (aI @h2 <|aI @h5 <|aI @h6 <|aI @r2 <|aI @r5 <|aI @ho <|aI @co105 <|aI @sr105 <|@q1.iffx) ?_
      refine cnd (fun h => ?_) (fun h => ?_)
      · simp at h
      refine gPASW (aI @h2 <|aI @h5 <|aI @h6 <|aI @r2 <|aI @r5 <|@ho) ?_
      refine rPASW hd (aI @Tryd.results61 <|aI @h2 <|aI @h5 <|aI @h6 <|aI @r2 <|aI @r5 <|@ho) ?_
      try exact True.intro
    · rw [if_neg c] at hR q1
      subst hR
      clear c hx
      refine gPASW (aI @h2 <|aI @h5 <|aI @h6 <|aI @r2 <|aI @r5 <|aI @ho <|aI @co105 <|aI @sr105 <|@q1.iffx) ?_
      refine cnd (fun h => ?_) (fun h => ?_)
      · refine gPASW (aI @h2 <|aI @h5 <|aI @h6 <|aI @r2 <|aI @r5 <|@ho) ?_
        refine rPASW hd (aI @Tryd.results61 <|aI @h2 <|aI @h5 <|aI @h6 <|aI @r2 <|aI @r5 <|@ho) ?_
        try exact True.intro
        rfl
      · simp at h
end Go.Proofs.YtpocekfifokndaaDoor
namespace Go.Proofs.YtpocekfifokndaaDoor
open Go Go.Ev Go.Pl
set_option maxRecDepth 100000
set_option maxHeartbeats 4000000
theorem num_tab (M : Nat) : ∀ n, numL (tab n (dig M)) = M % 60 ^ n
  | 0 => by simp [tab, numL, Nat.mod_one]
  | n + 1 => by
    rw [tab_succ, num_append, num_tab M n, tab_length, mod_succ]
    simp only [numL, Nat.mul_zero, Nat.add_zero]
    rw [Nat.mul_comm]
theorem trim_tab {M n : Nat} (h : M < 60 ^ n) : trimL (tab n (dig M)) = canL M := by
  rw [trimL_can, num_tab, Nat.mod_eq_of_lt h]
  intro d hd
  obtain ⟨i, _, rfl⟩ := List.mem_map.1 hd
  exact dig_lt _ _
theorem P102 (C d : Nat) (hl : (canL C).length < 1000) (hd0 : 0 < d) (hd1 : d < 10000000000000) : Ans X 102 [.sl (nats (canL C)), vn d] (.ret (.tup [.sl (nats (canL (C / d))), vn (C % d)])) := by
  refine call_of_X (fn := Tryd.f102) 2 Tryd.func102 rfl (by decide +kernel) rfl ?_ ?_ ?_ ?_
  · rfl
  · intro h; exact absurd h (by rw [sr102]; decide)
  · intro v hv; injection hv with hv; subst hv; rfl
  intro s hs hd ho
  have hm : s.m = ⟨.nil, []⟩ := by subst hs; rfl
  have h0 : s.t.get 0 = .sl (nats (canL C)) := by subst hs; rfl
  have h1 : s.t.get 1 = vn d := by subst hs; rfl
  clear hs
  have hC : C < 60 ^ (canL C).length := canL_length_le.1 (Nat.le_refl _)
  have hget : ∀ i, i < (canL C).length → (canL C)[i]? = some (dig C i) := fun i hi => by
    conv => lhs; rw [canL_tab]
    exact tab_get? hi
  generalize hL : canL C = L at *
  generalize hn : L.length = n at *
  have e0 : V.int .i64 (wr .i64 ((n : Int) - 1)) = vi ((n : Int) - 1) := by rw [wr_i64 (by omega) (by omega)]
  refine gPS (aI @nats_zero <|aI @h0 <|aI @h1 <|aI @hm <|aI @nats_length <|aI @hn <|@e0) ?_
  refine W_loopg (fun (k : Nat) s => s.dfs = [] ∧ s.m.out.length = 0 ∧ s.t.get 0 = .sl (nats L) ∧ s.t.get 1 = vn d ∧ s.t.get 6 = .rs ⟨0, 11, 0, 1⟩ 3 0 n ∧ s.t.get 7 = vn (C / 60 ^ k % d) ∧ s.t.get 8 = vi ((k : Int) - 1) ∧ k ≤ n ∧
    s.m.row ⟨0, 11, 0, 1⟩ = some ⟨1, 3, true, false, nats (tab n fun j => if k ≤ j then dig (C / d) j else 0)⟩) (fun k => k) n ?_ ?_
  · have hz : C / 60 ^ n % d = 0 := by rw [Nat.div_eq_of_lt hC]; simp
    have ht : (tab n fun j => if n ≤ j then dig (C / d) j else 0) = List.replicate n 0 := by
      rw [tab_const]; exact tab_congr fun j hj => if_neg (by omega)
    rw [hz, ht]
    refine ⟨hd, ?_, ?_, ?_, ?_, ?_, ?_, Nat.le_refl _, ?_⟩
    all_goals (try refine f0 (aI @h0 <|aI @h1 <|@hm) ?_);all_goals try exact True.intro
    all_goals rfl
  clear hd h0 h1 ho hm
  rintro k s ⟨hd, ho, h0, h1, h6, h7, h8, hk, r11⟩
  refine gP @h8 ?_
  refine cnd (fun h => ?_) (fun h => ?_)
  · have hk0 : 0 < k := by have := of_decide_eq_true h; omega
    obtain ⟨i, rfl⟩ : ∃ i, k = i + 1 := ⟨k - 1, by omega⟩
    clear h
    have h8' : s.t.get 8 = vn i := by rw [h8]; congr 1; omega
    clear h8
    obtain ⟨s1, s2⟩ := over_step C d i hd0
    have hr : C / 60 ^ (i + 1) % d < d := Nat.mod_lt _ hd0
    have hdg := dig_lt C i
    have hg := hget i (by omega)
    have hin : (i : Int) < (n : Int) := by omega
    have hin' : i < n := by omega
    have hi0 : (0 : Int) ≤ (i : Int) := by omega
    have hdn : ¬ ((d : Int) = 0) := by omega
    have hset : (tab n fun j => if i + 1 ≤ j then dig (C / d) j else 0).set i (dig (C / d) i) = tab n fun j => if i ≤ j then dig (C / d) j else 0 := by
      rw [tab_set]
      refine tab_congr fun j hj => ?_
      by_cases e : j = i
      · subst e; simp
      · rw [if_neg e]
        by_cases c : i + 1 ≤ j
        · rw [if_pos c, if_pos (by omega)]
        · rw [if_neg c, if_neg (by omega)]
    have hgo : ∃ v, (tab n fun j => if i + 1 ≤ j then dig (C / d) j else 0)[i]? = some v := ⟨_, tab_get? hin'⟩
    obtain ⟨v, hv⟩ := hgo
    generalize C / 60 ^ (i + 1) % d = r at *
    generalize dig C i = x at *
    have e1 : V.int .i64 (wr .i64 (wr .i64 ((r : Int) * 60) + x)) = vn (r * 60 + x) := by rw [cast_mul60, wr_nat (by omega), cast_add, wr_nat (by omega)]
    have e2 : V.int .i64 (wr .i64 (Int.tdiv ((r * 60 + x : Nat) : Int) (d : Int))) = vn (dig (C / d) i) := by
      rw [cast_tdiv, s1, wr_nat (Nat.lt_trans (dig_lt _ _) (by decide))]
    have e3 : V.int .i64 (Int.tmod ((r * 60 + x : Nat) : Int) (d : Int)) = vn (C / 60 ^ i % d) := by rw [cast_tmod, s2]
    have e4 : V.int .i64 (wr .i64 ((i : Int) - 1)) = vi ((i : Int) - 1) := by rw [wr_i64 (by omega) (by omega)]
    refine gPS (aI @nats_get? <|aI @nats_set <|aI @h0 <|aI @h1 <|aI @h6 <|aI @h7 <|aI @h8' <|aI @r11 <|aI @ho <|aI @hg <|aI @hn <|aI @hin <|aI @hin' <|aI @hi0 <|aI @hdn <|aI @hv <|aI @nats_length <|aI @tab_length <|aI @e1 <|aI @e2 <|aI @e3 <|@e4) ?_
    refine ⟨i, ⟨hd, ?_, ?_, ?_, ?_, ?_, ?_, by omega, ?_⟩, by omega⟩
    all_goals (try refine f0 (aI @h0 <|aI @h1 <|aI @h6 <|aI @ho <|@hset) ?_);all_goals try exact True.intro
  · have hk0 : k = 0 := by have := of_decide_eq_false h; omega
    subst hk0
    clear h
    have ht : (tab n fun j => if 0 ≤ j then dig (C / d) j else 0) = tab n (dig (C / d)) := tab_congr fun j hj => if_pos (Nat.zero_le _)
    rw [ht] at r11
    rw [Nat.pow_zero, Nat.div_one] at h7
    have hcut : cut (nats (tab n (dig (C / d)))) 0 n = nats (tab n (dig (C / d))) := by
      have := cut_nats (tab n (dig (C / d)))
      rwa [tab_length] at this
    have hlt : C / d < 60 ^ n := Nat.lt_of_le_of_lt (Nat.div_le_self _ _) hC
    have q := P135 (tab n (dig (C / d))) (by rw [tab_length]; omega)
    rw [trim_tab hlt] at q
    refine gPS (aI @h6 <|aI @h7 <|aI @r11 <|aI @ho <|aI @hcut <|aI @nats_length <|aI @tab_length <|aI @co135 <|aI @sr135 <|@q.iffx) ?_
    refine rPS hd (aI @Tryd.results102 <|@ho) ?_
    try exact True.intro
end Go.Proofs.YtpocekfifokndaaDoor
namespace Go.Proofs.YtpocekfifokndaaDoor
open Go Go.Ev Go.Pl
set_option maxRecDepth 100000
set_option maxHeartbeats 4000000
theorem P96 (N p : Nat) (hN : 0 < N) (hb : N < 60 ^ 90) (hp : 1 < p) (hp2 : p < 100) : Ans X 96 [.sl (nats (canL N)), vn p] (.ret (.tup [vn (mult p N), .sl (nats (canL (rem p N)))])) := by
  refine call_of_X (fn := Tryd.f96) 2 Tryd.func96 rfl (by decide +kernel) rfl ?_ ?_ ?_ ?_
  · rfl
  · intro h; exact absurd h (by rw [sr96]; decide)
  · intro v hv; injection hv with hv; subst hv; rfl
  intro s hs hd ho
  have hm : s.m = ⟨.nil, []⟩ := by subst hs; rfl
  have h0 : s.t.get 0 = .sl (nats (canL N)) := by subst hs; rfl
  have h1 : s.t.get 1 = vn p := by subst hs; rfl
  clear hs
  refine gP (aI @h0 <|aI @h1 <|@hm) ?_
  refine W_loopg (fun (x : Nat × Nat) s => s.dfs = [] ∧ s.m.out.length = 0 ∧ s.t.get 0 = .sl (nats (canL x.2)) ∧ s.t.get 1 = vn p ∧ s.t.get 6 = vn x.1 ∧ mult p N = x.1 + mult p x.2 ∧ rem p N = rem p x.2 ∧ 0 < x.2 ∧ x.2 < 60 ^ 90 ∧ x.2 * p ^ x.1 = N) (fun x => x.2) (0, N) ?_ ?_
  · refine ⟨hd, ?_, ?_, ?_, ?_, by simp, rfl, hN, hb, by simp⟩
    all_goals (try refine f0 (aI @h0 <|aI @h1 <|@hm) ?_);all_goals try exact True.intro
    all_goals rfl
  clear hd h0 h1 ho hm
  rintro ⟨c, D⟩ s ⟨hd, ho, h0, h1, h6, hmu, hre, hD0, hDb, hDN⟩
  dsimp only at h0 h6 hmu hre hD0 hDb hDN
  have hlen : (canL D).length ≤ 90 := canL_length_le.2 hDb
  have q := P102 D p (by omega) (by omega) (by omega)
  refine gP (aI @h0 <|aI @h1 <|aI @h6 <|aI @ho <|aI @co102 <|aI @sr102 <|@q.iffx) ?_
  refine cnd (fun h => ?_) (fun h => ?_)
  · have h : D % p ≠ 0 := by
      have h' : ¬ ((D % p : Nat) : Int) = 0 := by simpa using h
      omega
    rw [mult_no h, Nat.add_zero] at hmu
    rw [rem_no h] at hre
    rw [hmu, hre]
    refine gP (aI @h0 <|@h6) ?_
    refine rP hd @Tryd.results96 ?_
    try exact True.intro
  · have h : D % p = 0 := by
      have h' : ((D % p : Nat) : Int) = 0 := by simpa using h
      omega
    have hDp0 : 0 < D / p := Nat.div_pos (Nat.le_of_dvd hD0 (Nat.dvd_of_mod_eq_zero h)) (by omega)
    have hDpb : D / p < 60 ^ 90 := Nat.lt_of_le_of_lt (Nat.div_le_self _ _) hDb
    have hCe : D / p * p ^ (c + 1) = N := by
      rw [Nat.pow_succ, Nat.mul_comm (p ^ c), ← Nat.mul_assoc, Nat.div_mul_cancel (Nat.dvd_of_mod_eq_zero h)]; exact hDN
    have hc : c + 1 < 540 := by
      have g2 : p ^ (c + 1) ≤ N := by rw [← hCe]; exact Nat.le_mul_of_pos_left _ hDp0
      have g3 := mult_bound 90 hp g2 hb
      omega
    have hmu' := mult_yes hp hD0 h
    have hre' := rem_yes hp hD0 h
    have e1 : V.int .i64 (wr .i64 ((c : Int) + 1)) = vn (c + 1) := by rw [wr_i64 (by omega) (by omega)]; rfl
    have hlt := Nat.div_lt_self hD0 hp
    clear hDN hDb hlen
    refine gP (aI @h6 <|@e1) ?_
    refine ⟨(c + 1, D / p), ⟨hd, ?_, ?_, ?_, ?_, by dsimp only; omega, by dsimp only; rw [hre, hre'], hDp0, hDpb, hCe⟩, hlt⟩
    all_goals (try refine f0 (aI @h1 <|@ho) ?_);all_goals try exact True.intro
end Go.Proofs.YtpocekfifokndaaDoor
namespace Go.Proofs.YtpocekfifokndaaDoor
open Go Go.Ev Go.Pl
set_option maxRecDepth 100000
set_option maxHeartbeats 4000000
def cmpN (N M : Nat) : Int := if N < M then -1 else if M < N then 1 else 0
theorem canL_len_lt {N M : Nat} (h : (canL N).length < (canL M).length) : N < M := by
  rcases Nat.lt_or_ge N M with h' | h'
  · exact h'
  · have h1 : N < 60 ^ (canL N).length := canL_length_le.1 (Nat.le_refl _)
    have := canL_length_le.2 (Nat.lt_of_le_of_lt h' h1)
    omega
theorem div_lt_lt {N M k : Nat} (h : N / 60 ^ k < M / 60 ^ k) : N < M := by
  rcases Nat.lt_or_ge N M with h' | h'
  · exact h'
  · have := Nat.div_le_div_right (c := 60 ^ k) h'
    omega
theorem P97 (N M : Nat) (hl : (canL N).length < 1000) (hl2 : (canL M).length < 1000) : Ans X 97 [.sl (nats (canL N)), .sl (nats (canL M))] (.ret (vi (cmpN N M))) := by
  refine call_of_X (fn := Tryd.f97) 2 Tryd.func97 rfl (by decide +kernel) rfl ?_ ?_ ?_ ?_
  · rfl
  · exact fun _ => rfl
  · intro v hv; injection hv with hv; subst hv; rfl
  intro s hs hd ho
  have hm : s.m = ⟨.nil, []⟩ := by subst hs; rfl
  have h0 : s.t.get 0 = .sl (nats (canL N)) := by subst hs; rfl
  have h1 : s.t.get 1 = .sl (nats (canL M)) := by subst hs; rfl
  clear hs
  refine gP (aI @h0 <|aI @h1 <|aI @hm <|@nats_length) ?_
  refine cnd (fun h => ?_) (fun h => ?_)
  · have h : (canL N).length ≠ (canL M).length := fun e => by rw [e] at h; simp at h
    refine gP (aI @h0 <|aI @h1 <|aI @hm <|@nats_length) ?_
    refine cnd (fun h => ?_) (fun h => ?_)
    · have h' := of_decide_eq_true h
      have hlt : N < M := canL_len_lt (by omega)
      refine gP @Nat.zero_add ?_
      refine rP hd @Tryd.results97 ?_
      try exact True.intro
      rw [cmpN, if_pos hlt]
    · have h' := of_decide_eq_false h
      have hlt : M < N := canL_len_lt (by omega)
      refine gP @Nat.zero_add ?_
      refine rP hd @Tryd.results97 ?_
      try exact True.intro
      rw [cmpN, if_neg (by omega), if_pos hlt]
  have hlen : (canL M).length = (canL N).length := by
    have h' : ((canL N).length : Int) = (canL M).length := by simpa using h
    omega
  clear h
  have hget : ∀ i, i < (canL N).length → (canL N)[i]? = some (dig N i) ∧ (canL M)[i]? = some (dig M i) := fun i hi => by
    constructor
    · conv => lhs; rw [canL_tab]
      exact tab_get? hi
    · conv => lhs; rw [canL_tab]
      exact tab_get? (by omega)
  have hN : N < 60 ^ (canL N).length := canL_length_le.1 (Nat.le_refl _)
  have hM : M < 60 ^ (canL N).length := by rw [← hlen]; exact canL_length_le.1 (Nat.le_refl _)
  generalize canL N = L at *
  generalize canL M = L' at *
  generalize hn : L.length = n at *
  have e0 : V.int .i64 (wr .i64 ((n : Int) - 1)) = vi ((n : Int) - 1) := by rw [wr_i64 (by omega) (by omega)]
  refine gP (aI @h0 <|aI @h1 <|aI @hm <|aI @nats_length <|aI @hn <|@e0) ?_
  refine W_loopg (fun (k : Nat) s => s.dfs = [] ∧ s.m.out.length = 0 ∧ s.t.get 0 = .sl (nats L) ∧ s.t.get 1 = .sl (nats L') ∧ s.t.get 5 = vi ((k : Int) - 1) ∧ k ≤ n ∧ N / 60 ^ k = M / 60 ^ k) (fun k => k) n ?_ ?_
  · refine ⟨hd, ?_, ?_, ?_, ?_, Nat.le_refl _, by rw [Nat.div_eq_of_lt hN, Nat.div_eq_of_lt hM]⟩
    all_goals (try refine f0 (aI @h0 <|aI @h1 <|@hm) ?_);all_goals try exact True.intro
    all_goals rfl
  clear hd h0 h1 ho hm
  rintro k s ⟨hd, ho, h0, h1, h5, hk, hq⟩
  refine gP @h5 ?_
  refine cnd (fun h => ?_) (fun h => ?_)
  · have hk0 : 0 < k := by have := of_decide_eq_true h; omega
    obtain ⟨i, rfl⟩ : ∃ i, k = i + 1 := ⟨k - 1, by omega⟩
    clear h
    have h5' : s.t.get 5 = vn i := by rw [h5]; congr 1; omega
    clear h5
    obtain ⟨g1, g2⟩ := hget i (by omega)
    have hin : (i : Int) < (n : Int) := by omega
    have hi0 : (0 : Int) ≤ (i : Int) := by omega
    have d1 := div_succ N i
    have d2 := div_succ M i
    have e4 : V.int .i64 (wr .i64 ((i : Int) - 1)) = vi ((i : Int) - 1) := by rw [wr_i64 (by omega) (by omega)]
    generalize dig N i = x at *
    generalize dig M i = y at *
    refine gPS (aI @nats_get? <|aI @nats_length <|aI @h0 <|aI @h1 <|aI @h5' <|aI @ho <|aI @g1 <|aI @g2 <|aI @hn <|aI @hlen <|aI @hin <|@hi0) ?_
    refine cnd (fun h => ?_) (fun h => ?_)
    · have h' := of_decide_eq_true h
      have hlt : N < M := div_lt_lt (k := i) (by omega)
      refine gP @Nat.zero_add ?_
      refine rP hd @Tryd.results97 ?_
      try exact True.intro
      rw [cmpN, if_pos hlt]
    have hxy := of_decide_eq_false h
    refine gPS (aI @nats_get? <|aI @nats_length <|aI @h0 <|aI @h1 <|aI @h5' <|aI @ho <|aI @g1 <|aI @g2 <|aI @hn <|aI @hlen <|aI @hin <|@hi0) ?_
    refine cnd (fun h => ?_) (fun h => ?_)
    · have h' := of_decide_eq_true h
      have hlt : M < N := div_lt_lt (k := i) (by omega)
      refine gP @Nat.zero_add ?_
      refine rP hd @Tryd.results97 ?_
      try exact True.intro
      rw [cmpN, if_neg (by omega), if_pos hlt]
    have hyx := of_decide_eq_false h
    refine gP (aI @h5' <|@e4) ?_
    refine ⟨i, ⟨hd, ?_, ?_, ?_, ?_, by omega, by omega⟩, by omega⟩
    all_goals (try refine f0 (aI @h0 <|aI @h1 <|@ho) ?_);all_goals try exact True.intro
  · have hk0 : k = 0 := by have := of_decide_eq_false h; omega
    subst hk0
    rw [Nat.pow_zero, Nat.div_one, Nat.div_one] at hq
    refine gP @Nat.zero_add ?_
    refine rP hd @Tryd.results97 ?_
    try exact True.intro
    rw [cmpN, if_neg (by omega), if_neg (by omega)]
end Go.Proofs.YtpocekfifokndaaDoor
namespace Go.Proofs.YtpocekfifokndaaDoor
open Go Go.Ev Go.Pl
set_option maxRecDepth 100000
set_option maxHeartbeats 4000000
theorem num_zero (n : Nat) : numL (List.replicate n 0) = 0 := by
  induction n with
  | zero => rfl
  | succ n ih => rw [List.replicate_succ, numL, ih]
theorem num_take_succ {l : List Nat} {k d : Nat} (h : l[k]? = some d) : numL (l.take (k + 1)) = numL (l.take k) + d * 60 ^ k := by
  have hk : k < l.length := by
    rcases Nat.lt_or_ge k l.length with h' | h'
    · exact h'
    · rw [List.getElem?_eq_none h'] at h; simp at h
  rw [List.take_add_one, h, num_append, List.length_take, Nat.min_eq_left (by omega)]
  simp [numL, Nat.mul_comm]
theorem last_zero {o : List Nat} {n v : Nat} (hn : o.length = n + 1) (hv : o[n]? = some v) (h : numL o < 60 ^ n) : v = 0 := by
  have e := num_take_succ hv
  rw [List.take_of_length_le (by omega)] at e
  rcases Nat.eq_zero_or_pos v with h0 | h0
  · exact h0
  · have : 60 ^ n ≤ v * 60 ^ n := Nat.le_mul_of_pos_left _ h0
    omega
theorem mem_set_le {o : List Nat} {i v B : Nat} (h : ∀ d ∈ o, d ≤ B) (hv : v ≤ B) : ∀ d ∈ o.set i v, d ≤ B := fun d hd => by
  rcases List.mem_or_eq_of_mem_set hd with h' | h'
  · exact h d h'
  · omega
theorem P84 (x y : List Nat) (hx : ∀ d ∈ x, d < 60) (hy : ∀ d ∈ y, d < 60) (lx : x.length < 300) (ly : y.length < 300) : Ans X 84 [.sl (nats x), .sl (nats y)] (.ret (.sl (nats (canL (numL x * numL y))))) := by
  refine call_of_X (fn := Tryd.f84) 2 Tryd.func84 rfl (by decide +kernel) rfl ?_ ?_ ?_ ?_
  · rfl
  · intro h; exact absurd h (by rw [sr84]; decide)
  · intro v hv; injection hv with hv; subst hv; rfl
  intro s hs hd ho
  have hm : s.m = ⟨.nil, []⟩ := by subst hs; rfl
  have h0 : s.t.get 0 = .sl (nats x) := by subst hs; rfl
  have h1 : s.t.get 1 = .sl (nats y) := by subst hs; rfl
  clear hs
  have hc : ((x.length : Int) + y.length + 1) = ((x.length + y.length + 1 : Nat) : Int) := by omega
  refine gPSC (aI @nats_zero <|aI @h0 <|aI @h1 <|@hm) ?_
  refine W_loopg (fun (x' : Nat × List Nat) s => s.dfs = [] ∧ s.m.out.length = 0 ∧ s.t.get 0 = .sl (nats x) ∧ s.t.get 1 = .sl (nats y) ∧ s.t.get 5 = .rs ⟨0, 15, 0, 1⟩ 3 0 (x.length + y.length + 1) ∧ s.t.get 6 = vn x'.1 ∧
    s.m.row ⟨0, 15, 0, 1⟩ = some ⟨1, 3, true, false, nats x'.2⟩ ∧ x'.1 ≤ x.length ∧ x'.2.length = x.length + y.length + 1 ∧ numL x'.2 = numL (x.take x'.1) * numL y ∧ ∀ d ∈ x'.2, d ≤ 3600 * (x'.1 * y.length)) (fun x' => x.length - x'.1) (0, List.replicate (x.length + y.length + 1) 0) ?_ ?_
  · refine ⟨hd, ?_, ?_, ?_, ?_, ?_, ?_, Nat.zero_le _, by simp, by simp [num_zero, numL], fun d hd => by simp at hd; omega⟩
    all_goals (try refine f0 (aI @h0 <|aI @h1 <|@hm) ?_);all_goals try exact True.intro
    all_goals first | rfl | simp [nats, List.replicate_succ]
  clear hd h0 h1 ho hm
  rintro ⟨i, o⟩ s ⟨hd, ho, h0, h1, h5, h6, r5, hi, hol, hnum, hB⟩
  dsimp only at h6 r5 hi hol hnum hB
  refine gP (aI @nats_length <|aI @h0 <|aI @h1 <|aI @h5 <|aI @h6 <|aI @r5 <|@ho) ?_
  refine cnd (fun h => ?_) (fun h => ?_)
  · have h := of_decide_eq_true h
    have hi : i < x.length := by omega
    obtain ⟨dx, hdx⟩ : ∃ d, x[i]? = some d := ⟨x[i], by simp⟩
    have hdx60 : dx < 60 := hx dx (List.mem_of_getElem? hdx)
    refine gP (aI @nats_length <|aI @h0 <|aI @h1 <|aI @h5 <|aI @h6 <|aI @r5 <|@ho) ?_
    refine W_loopg (fun (x' : Nat × List Nat) s => s.dfs = [] ∧ s.m.out.length = 0 ∧ s.t.get 0 = .sl (nats x) ∧ s.t.get 1 = .sl (nats y) ∧ s.t.get 5 = .rs ⟨0, 15, 0, 1⟩ 3 0 (x.length + y.length + 1) ∧ s.t.get 6 = vn i ∧ s.t.get 7 = vn x'.1 ∧
      s.m.row ⟨0, 15, 0, 1⟩ = some ⟨1, 3, true, false, nats x'.2⟩ ∧ x'.1 ≤ y.length ∧ x'.2.length = x.length + y.length + 1 ∧ numL x'.2 = numL (x.take i) * numL y + dx * 60 ^ i * numL (y.take x'.1) ∧ ∀ d ∈ x'.2, d ≤ 3600 * (i * y.length + x'.1)) (fun x' => y.length - x'.1) (0, o) ?_ ?_
    · refine ⟨hd, ?_, ?_, ?_, ?_, ?_, ?_, ?_, Nat.zero_le _, hol, by simp [hnum, numL], hB⟩
      all_goals (try refine f0 (aI @h0 <|aI @h1 <|aI @h5 <|aI @h6 <|aI @r5 <|@ho) ?_);all_goals try exact True.intro
      · rfl
    clear hd h0 h1 ho h5 h6 r5 hol hnum hB
    rintro ⟨k, o⟩ s ⟨hd, ho, h0, h1, h5, h6, h7, r5, hk, hol, hnum, hB⟩
    dsimp only at h7 r5 hk hol hnum hB
    refine gP (aI @nats_length <|aI @h0 <|aI @h1 <|aI @h5 <|aI @h6 <|aI @h7 <|aI @r5 <|@ho) ?_
    have hBk : 3600 * (i * y.length + k) < 1000000000 := by
      have : i * y.length ≤ 300 * 300 := Nat.mul_le_mul (by omega) (by omega)
      omega
    refine cnd (fun h => ?_) (fun h => ?_)
    · have h := of_decide_eq_true h
      have hk : k < y.length := by omega
      obtain ⟨dy, hdy⟩ : ∃ d, y[k]? = some d := ⟨y[k], by simp⟩
      have hdy60 : dy < 60 := hy dy (List.mem_of_getElem? hdy)
      obtain ⟨v, hv⟩ : ∃ v, o[i + k]? = some v := ⟨o[i + k]'(by omega), by simp⟩
      have hvB : v ≤ 3600 * (i * y.length + k) := hB v (List.mem_of_getElem? hv)
      have hxy : dx * dy ≤ 3600 := Nat.le_trans (Nat.mul_le_mul (Nat.le_of_lt hdx60) (Nat.le_of_lt hdy60)) (by decide)
      have hik : i + k < x.length + y.length + 1 := by omega
      refine gPSC (aI @nats_get? <|aI @nats_set <|aI @h0 <|aI @h1 <|aI @h5 <|aI @h6 <|aI @h7 <|aI @r5 <|aI @ho <|aI @hdx <|aI @hdy <|aI @hv <|aI @hol <|@hik) ?_
      refine ⟨(k + 1, o.set (i + k) (v + dx * dy)), ⟨hd, ?_, ?_, ?_, ?_, ?_, ?_, ?_, by dsimp only; omega, by simpa using hol, ?_, ?_⟩, by dsimp only; omega⟩
      all_goals (try refine f0 (aI @h0 <|aI @h1 <|aI @h5 <|aI @h6 <|@ho) ?_);all_goals try exact True.intro
      · have e := num_set (v := v + dx * dy) hv
        rw [num_take_succ hdy]
        have e2 : (v + dx * dy) * 60 ^ (i + k) = v * 60 ^ (i + k) + dx * 60 ^ i * (dy * 60 ^ k) := by rw [Nat.pow_add]; grind
        rw [e2] at e
        rw [Nat.mul_add]
        omega
      · refine mem_set_le (fun d hd => Nat.le_trans (hB d hd) ?_) ?_ <;> omega
    · have h := of_decide_eq_false h
      obtain rfl : k = y.length := by omega
      refine gPC (aI @h0 <|aI @h1 <|aI @h5 <|aI @h6 <|aI @h7 <|@ho) ?_
      refine ⟨(i + 1, o), ⟨hd, ?_, ?_, ?_, ?_, ?_, ?_, by dsimp only; omega, hol, ?_, ?_⟩, by dsimp only; omega⟩
      all_goals (try refine f0 (aI @h0 <|aI @h1 <|aI @h5 <|aI @r5 <|@ho) ?_);all_goals try exact True.intro
      · rw [hnum, num_take_succ hdx, List.take_length]; grind
      · intro d hd
        have := hB d hd
        rw [Nat.add_mul, Nat.one_mul]; exact this
  · have h := of_decide_eq_false h
    obtain rfl : i = x.length := by omega
    rw [List.take_length] at hnum
    have hlt : numL x * numL y < 60 ^ (x.length + y.length) := by
      rw [Nat.pow_add]; exact Nat.mul_lt_mul'' (num_lt hx) (num_lt hy)
    have hB : ∀ d ∈ o, d ≤ 400000000 := fun d hd => by
      have := hB d hd
      have : x.length * y.length ≤ 300 * 300 := Nat.mul_le_mul (by omega) (by omega)
      omega
    refine gP (aI @h0 <|aI @h1 <|aI @h5 <|aI @h6 <|@ho) ?_
    refine W_loopg (fun (x' : Nat × List Nat) s => s.dfs = [] ∧ s.m.out.length = 0 ∧ s.t.get 5 = .rs ⟨0, 15, 0, 1⟩ 3 0 (x.length + y.length + 1) ∧ s.t.get 8 = vn x'.1 ∧
      s.m.row ⟨0, 15, 0, 1⟩ = some ⟨1, 3, true, false, nats x'.2⟩ ∧ x'.1 ≤ x.length + y.length ∧ x'.2.length = x.length + y.length + 1 ∧ numL x'.2 = numL x * numL y ∧ (∀ j d, j < x'.1 → x'.2[j]? = some d → d < 60) ∧ (∀ j d, x'.1 < j → x'.2[j]? = some d → d ≤ 400000000) ∧
      (∀ d, x'.2[x'.1]? = some d → d ≤ 800000000)) (fun x' => x.length + y.length - x'.1) (0, o) ?_ ?_
    · refine ⟨hd, ?_, ?_, ?_, ?_, Nat.zero_le _, hol, hnum, fun j d hj => by dsimp only at hj; omega, fun j d _ he => hB d (List.mem_of_getElem? he), fun d he => Nat.le_trans (hB d (List.mem_of_getElem? he)) (by decide)⟩
      all_goals (try refine f0 (aI @h5 <|aI @r5 <|@ho) ?_);all_goals try exact True.intro
      · rfl
    clear hd h0 h1 ho h5 h6 r5 hol hnum hB
    rintro ⟨k, o⟩ s ⟨hd, ho, h5, h8, r5, hk, hol, hnum, hlow, hhigh, hmid⟩
    dsimp only at h8 r5 hk hol hnum hlow hhigh hmid
    refine gPC (aI @nats_length <|aI @h5 <|aI @h8 <|aI @r5 <|@ho) ?_
    refine cnd (fun h => ?_) (fun h => ?_)
    · have h := of_decide_eq_true h
      have hk : k < x.length + y.length := by omega
      obtain ⟨v, hv⟩ : ∃ v, o[k]? = some v := ⟨o[k]'(by omega), by simp⟩
      obtain ⟨u, hu⟩ : ∃ u, o[k + 1]? = some u := ⟨o[k + 1]'(by omega), by simp⟩
      have hvB := hmid v hv
      have huB := hhigh (k + 1) u (by omega) hu
      have hk1 : k < x.length + y.length + 1 := by omega
      have hk2 : k + 1 < x.length + y.length + 1 := by omega
      have hv' : (o.set (k + 1) (u + v / 60))[k]? = some v := by rw [List.getElem?_set, if_neg (by omega), hv]
      have hol' : (o.set (k + 1) (u + v / 60)).length = x.length + y.length + 1 := by rw [List.length_set]; exact hol
      refine gPSC (aI @nats_get? <|aI @nats_set <|aI @h5 <|aI @h8 <|aI @r5 <|aI @ho <|aI @hv <|aI @hu <|aI @hv' <|aI @hol <|aI @hol' <|aI @hk1 <|@hk2) ?_
      refine ⟨(k + 1, (o.set (k + 1) (u + v / 60)).set k (v % 60)), ⟨hd, ?_, ?_, ?_, ?_, by dsimp only; omega, by simpa using hol, ?_, ?_, ?_, ?_⟩, by dsimp only; omega⟩
      all_goals (try refine f0 (aI @h5 <|@ho) ?_);all_goals try exact True.intro
      · have e1 := num_set (v := u + v / 60) hu
        have e2 := num_set (v := v % 60) hv'
        rw [← hnum]
        have e3 : (u + v / 60) * 60 ^ (k + 1) = u * 60 ^ (k + 1) + v / 60 * 60 * 60 ^ k := by rw [Nat.pow_succ]; grind
        have e4 : v * 60 ^ k = v % 60 * 60 ^ k + v / 60 * 60 * 60 ^ k := by rw [← Nat.add_mul]; congr 1; omega
        rw [e3] at e1
        rw [e4] at e2
        omega
      · intro j d hj he
        rw [List.getElem?_set, List.getElem?_set] at he
        by_cases e : k = j
        · rw [if_pos e] at he; split at he
          · injection he with he; omega
          · simp at he
        · rw [if_neg e, if_neg (by omega)] at he
          exact hlow j d (by omega) he
      · intro j d hj he
        rw [List.getElem?_set, List.getElem?_set, if_neg (by omega), if_neg (by omega)] at he
        exact hhigh j d (by omega) he
      · intro d he
        rw [List.getElem?_set, List.getElem?_set, if_neg (by omega), if_pos rfl] at he
        split at he
        · injection he with he; omega
        · simp at he
    · have h := of_decide_eq_false h
      obtain rfl : k = x.length + y.length := by omega
      obtain ⟨v, hv⟩ : ∃ v, o[x.length + y.length]? = some v := ⟨o[x.length + y.length]'(by omega), by simp⟩
      have hv0 := last_zero hol hv (by rw [hnum]; exact hlt)
      have hall : ∀ d ∈ o, d < 60 := fun d hd => by
        obtain ⟨j, hj, e⟩ := List.mem_iff_getElem.1 hd
        have e' : o[j]? = some d := by rw [List.getElem?_eq_getElem hj, e]
        by_cases hj' : j < x.length + y.length
        · exact hlow j d hj' e'
        · have : j = x.length + y.length := by omega
          subst this
          rw [hv] at e'; injection e' with e'; omega
      have hcall := P135 o (by omega)
      rw [trimL_can hall, hnum] at hcall
      have hcut : cut (nats o) 0 (x.length + y.length + 1) = nats o := by rw [← hol]; exact cut_nats o
      refine gPS (aI @h5 <|aI @r5 <|aI @ho <|aI @hol <|aI @hcut <|aI @co135 <|aI @sr135 <|@hcall.iffx) ?_
      refine rPS hd (aI @Tryd.results84 <|@ho) ?_
      try exact True.intro
end Go.Proofs.YtpocekfifokndaaDoor
namespace Go.Proofs.YtpocekfifokndaaDoor
open Go Go.Ev Go.Pl
set_option maxRecDepth 100000
set_option maxHeartbeats 4000000
theorem P85 (a : List Nat) (ha : ∀ d ∈ a, d < 60) (hl : a.length < 1000) : Ans X 85 [.sl (nats a)] (.ret (.sl (nats (canL (numL a.reverse))))) := by
  refine call_of_X (fn := Tryd.f85) 1 Tryd.func85 rfl (by decide +kernel) rfl ?_ ?_ ?_ ?_
  · rfl
  · intro h; exact absurd h (by rw [sr85]; decide)
  · intro v hv; injection hv with hv; subst hv; rfl
  intro s hs hd ho
  have hm : s.m = ⟨.nil, []⟩ := by subst hs; rfl
  have h0 : s.t.get 0 = .sl (nats a) := by subst hs; rfl
  clear hs
  refine gPS (aI @h0 <|aI @hm <|@wr_i64) ?_
  refine W_loopg (fun (k : Nat) s => s.dfs = [] ∧ s.m.out.length = 0 ∧ s.t.get 0 = .sl (nats a) ∧ s.t.get 4 = vi (a.length - 1 - k) ∧ Held s.m 3 1 (s.t.get 3) (a.reverse.take k) ∧ k ≤ a.length) (fun k => a.length - k) 0 ?_ ?_
  · refine ⟨hd, ?_, ?_, ?_, ⟨1, 0, ?_, ?_, .inr ⟨rfl, rfl⟩⟩, Nat.zero_le _⟩
    all_goals (try refine f0 (aI @h0 <|@hm) ?_);all_goals try exact True.intro
    · simp
    · simp
    · simp [nats]
  clear hd h0 ho hm
  rintro k s ⟨hd, ho, h0, h4, ⟨g, ty, h3, r3, hty⟩, hk⟩
  have hlen : (a.reverse.take k).length = k := by rw [List.length_take, List.length_reverse]; omega
  rw [hlen] at h3 hty
  refine gP (aI @h0 <|aI @h3 <|aI @h4 <|aI @r3 <|@ho) ?_
  refine cnd (fun h => ?_) (fun h => ?_)
  · have h := of_decide_eq_true h
    have hk : k < a.length := by omega
    obtain ⟨d, hdk⟩ : ∃ d, a[a.length - 1 - k]? = some d := ⟨a[a.length - 1 - k]'(by omega), by simp⟩
    have hc : ((a.length : Int) - 1 - k).toNat = a.length - 1 - k := by omega
    have hc0 : (0 : Int) ≤ (a.length : Int) - 1 - k := by omega
    have hnat : nats (a.reverse.take k) ++ [vn d] = nats (a.reverse.take (k + 1)) := by
      rw [nats_snoc, List.take_add_one, List.getElem?_reverse (by omega), hdk]; rfl
    have hcut : cut (nats (a.reverse.take k)) 0 k = nats (a.reverse.take k) := by
      conv => lhs; arg 3; rw [← hlen]
      exact cut_nats _
    refine gPS (aI @cut_one <|aI @hcut <|aI @hnat <|aI @h0 <|aI @h3 <|aI @h4 <|aI @r3 <|aI @ho <|aI @hty <|aI @hlen <|aI @nats_get? <|aI @hdk <|aI @hc <|aI @hc0 <|@wr_i64) ?_
    refine ⟨k + 1, ⟨hd, ?_, ?_, ?_, ⟨g + 1, 3, ?_, ?_, .inl rfl⟩, by omega⟩, by omega⟩
    all_goals (try refine fS (aI @h0 <|aI @h3 <|@ho) ?_);all_goals try exact True.intro
    · congr 1; omega
    · rw [List.length_take, List.length_reverse, Nat.min_eq_left (by omega)]
  · have h := of_decide_eq_false h
    obtain rfl : k = a.length := by omega
    rw [show a.length = a.reverse.length by simp, List.take_length] at r3
    have hrev : ∀ d ∈ a.reverse, d < 60 := fun d hd => ha d (List.mem_reverse.1 hd)
    have hcut : cut (nats a.reverse) 0 a.length = nats a.reverse := by
      conv => lhs; arg 3; rw [← List.length_reverse]
      exact cut_nats _
    have hcall := P135 a.reverse (by rw [List.length_reverse]; omega)
    rw [trimL_can hrev] at hcall
    refine gPS (aI @h3 <|aI @r3 <|aI @ho <|aI @List.length_reverse.{0} <|aI @hcut <|aI @co135 <|aI @sr135 <|@hcall.iffx) ?_
    refine rPS hd (aI @Tryd.results85 <|@ho) ?_
    try exact True.intro
end Go.Proofs.YtpocekfifokndaaDoor
namespace Go.Proofs.YtpocekfifokndaaDoor
open Go Go.Ev Go.Pl
set_option maxRecDepth 100000
set_option maxHeartbeats 4000000
theorem canL_mem60 (N : Nat) : ∀ d ∈ canL N, d < 60 := canL_lt N
theorem Q84 (N M : Nat) (h1 : (canL N).length < 300) (h2 : (canL M).length < 300) : Ans X 84 [.sl (nats (canL N)), .sl (nats (canL M))] (.ret (.sl (nats (canL (N * M))))) := by
  have q := P84 (canL N) (canL M) (canL_lt N) (canL_lt M) h1 h2
  rwa [num_canL, num_canL] at q
theorem pow_canL {b k : Nat} (n : Nat) (hb : b ≤ 60) (hk : k ≤ n) : b ^ k ≤ 60 ^ n := Nat.le_trans (Nat.pow_le_pow_left hb k) (Nat.pow_le_pow_right (by decide) hk)
theorem tur_len {A B C : Nat} {i j k : Nat} (hA : A ≤ 60 ^ 95) (hB : B ≤ 60 ^ 60) (hC : C ≤ 60 ^ 41) : (canL (A * B * C)).length ≤ 197 :=
  canL_length_le.2 (Nat.lt_of_le_of_lt (Nat.mul_le_mul (Nat.mul_le_mul hA hB) hC) (by decide))
theorem P98 (i j k : Nat) (hi : i ≤ 95) (hj : j ≤ 60) (hk : k ≤ 41) : Ans X 98 [vn i, vn j, vn k] (.ret (.sl (nats (digB (30 ^ i * 20 ^ j * 12 ^ k))))) := by
  refine call_of_X (fn := Tryd.f98) 3 Tryd.func98 rfl (by decide +kernel) rfl ?_ ?_ ?_ ?_
  · rfl
  · intro h; exact absurd h (by rw [sr98]; decide)
  · intro v hv; injection hv with hv; subst hv; rfl
  intro s hs hd ho
  have hm : s.m = ⟨.nil, []⟩ := by subst hs; rfl
  have h0 : s.t.get 0 = vn i := by subst hs; rfl
  have h1 : s.t.get 1 = vn j := by subst hs; rfl
  have h2 : s.t.get 2 = vn k := by subst hs; rfl
  clear hs
  have q1 : Ans X 95 [vi 1] _ := P95 1 (by decide)
  have q30 : Ans X 95 [vi 30] _ := P95 30 (by decide)
  have q20 : Ans X 95 [vi 20] _ := P95 20 (by decide)
  have q12 : Ans X 95 [vi 12] _ := P95 12 (by decide)
  have l30 : (canL 30).length < 300 := Nat.lt_of_le_of_lt (canL_length_le.2 (by decide : 30 < 60 ^ 1)) (by decide)
  have l20 : (canL 20).length < 300 := Nat.lt_of_le_of_lt (canL_length_le.2 (by decide : 20 < 60 ^ 1)) (by decide)
  have l12 : (canL 12).length < 300 := Nat.lt_of_le_of_lt (canL_length_le.2 (by decide : 12 < 60 ^ 1)) (by decide)
  have wi : ∀ n : Nat, n < 1000 → V.int .i64 (wr .i64 ((n : Int) + 1)) = vn (n + 1) := fun n h => by rw [wr_i64 (by omega) (by omega)]; rfl
  refine gP (aI @h0 <|aI @h1 <|aI @h2 <|aI @hm <|aI @co95 <|aI @sr95 <|@q1.iffx) ?_
  refine W_loopg (fun (n : Nat) s => s.dfs = [] ∧ s.m.out.length = 0 ∧ s.t.get 0 = vn i ∧ s.t.get 1 = vn j ∧ s.t.get 2 = vn k ∧ s.t.get 8 = vn n ∧ n ≤ i ∧ s.t.get 7 = .sl (nats (canL (30 ^ n)))) (fun n => i - n) 0 ?_ ?_
  · refine ⟨hd, ?_, ?_, ?_, ?_, ?_, Nat.zero_le _, ?_⟩
    all_goals (try refine f0 (aI @h0 <|aI @h1 <|aI @h2 <|@hm) ?_);all_goals try exact True.intro
    all_goals rfl
  clear hd h0 h1 h2 ho hm q1
  rintro n s ⟨hd, ho, h0, h1, h2, h8, hn, h7⟩
  refine gP (aI @h0 <|@h8) ?_
  refine cnd (fun h => ?_) (fun h => ?_)
  · have hlt := of_decide_eq_true h
    have q := Q84 (30 ^ n) 30 (Nat.lt_of_le_of_lt (canL_length_le.2 (Nat.lt_of_le_of_lt (pow_canL 95 (by decide) (by omega)) (by decide : 60 ^ 95 < 60 ^ 96))) (by decide)) l30
    rw [← Nat.pow_succ] at q
    have e := wi n (by omega)
    refine gP (aI @h7 <|aI @h8 <|aI @ho <|aI @co95 <|aI @sr95 <|aI @q30.iffx <|aI @co84 <|aI @sr84 <|aI @q.iffx <|@e) ?_
    refine ⟨n + 1, ⟨hd, ?_, ?_, ?_, ?_, ?_, by omega, ?_⟩, by omega⟩
    all_goals (try refine f0 (aI @h0 <|aI @h1 <|aI @h2 <|@ho) ?_);all_goals try exact True.intro
  have hni : n = i := by have := of_decide_eq_false h; omega
  subst hni
  have hA := pow_canL (b := 30) 95 (by decide) hi
  generalize 30 ^ n = A at *
  clear h h0 h8 l30 q30
  refine gP @Nat.zero_add ?_
  refine W_loopg (fun (n : Nat) s => s.dfs = [] ∧ s.m.out.length = 0 ∧ s.t.get 1 = vn j ∧ s.t.get 2 = vn k ∧ s.t.get 9 = vn n ∧ n ≤ j ∧ s.t.get 7 = .sl (nats (canL (A * 20 ^ n)))) (fun n => j - n) 0 ?_ ?_
  · rw [Nat.pow_zero, Nat.mul_one]
    refine ⟨hd, ?_, ?_, ?_, ?_, Nat.zero_le _, ?_⟩
    all_goals (try refine f0 (aI @h1 <|aI @h2 <|aI @h7 <|@ho) ?_);all_goals try exact True.intro
    all_goals rfl
  clear hd h1 h2 ho h7
  rintro n s ⟨hd, ho, h1, h2, h9, hn, h7⟩
  refine gP (aI @h1 <|@h9) ?_
  refine cnd (fun h => ?_) (fun h => ?_)
  · have hlt := of_decide_eq_true h
    have q := Q84 (A * 20 ^ n) 20 (Nat.lt_of_le_of_lt (canL_length_le.2 (Nat.lt_of_le_of_lt (Nat.mul_le_mul hA (pow_canL (b := 20) 60 (by decide) (by omega))) (by decide : 60 ^ 95 * 60 ^ 60 < 60 ^ 156))) (by decide)) l20
    rw [Nat.mul_assoc, ← Nat.pow_succ] at q
    have e := wi n (by omega)
    refine gP (aI @h7 <|aI @h9 <|aI @ho <|aI @co95 <|aI @sr95 <|aI @q20.iffx <|aI @co84 <|aI @sr84 <|aI @q.iffx <|@e) ?_
    refine ⟨n + 1, ⟨hd, ?_, ?_, ?_, ?_, by omega, ?_⟩, by omega⟩
    all_goals (try refine f0 (aI @h1 <|aI @h2 <|@ho) ?_);all_goals try exact True.intro
  have hni : n = j := by have := of_decide_eq_false h; omega
  subst hni
  have hB := Nat.mul_le_mul hA (pow_canL (b := 20) 60 (by decide) hj)
  generalize A * 20 ^ n = B at *
  clear h h1 h9 l20 q20
  refine gP @Nat.zero_add ?_
  refine W_loopg (fun (n : Nat) s => s.dfs = [] ∧ s.m.out.length = 0 ∧ s.t.get 2 = vn k ∧ s.t.get 10 = vn n ∧ n ≤ k ∧ s.t.get 7 = .sl (nats (canL (B * 12 ^ n)))) (fun n => k - n) 0 ?_ ?_
  · rw [Nat.pow_zero, Nat.mul_one]
    refine ⟨hd, ?_, ?_, ?_, Nat.zero_le _, ?_⟩
    all_goals (try refine f0 (aI @h2 <|aI @h7 <|@ho) ?_);all_goals try exact True.intro
    all_goals rfl
  clear hd h2 ho h7
  rintro n s ⟨hd, ho, h2, h10, hn, h7⟩
  refine gP (aI @h2 <|@h10) ?_
  refine cnd (fun h => ?_) (fun h => ?_)
  · have hlt := of_decide_eq_true h
    have q := Q84 (B * 12 ^ n) 12 (Nat.lt_of_le_of_lt (canL_length_le.2 (Nat.lt_of_le_of_lt (Nat.mul_le_mul hB (pow_canL (b := 12) 41 (by decide) (by omega))) (by decide : 60 ^ 95 * 60 ^ 60 * 60 ^ 41 < 60 ^ 197))) (by decide)) l12
    rw [Nat.mul_assoc, ← Nat.pow_succ] at q
    have e := wi n (by omega)
    refine gP (aI @h7 <|aI @h10 <|aI @ho <|aI @co95 <|aI @sr95 <|aI @q12.iffx <|aI @co84 <|aI @sr84 <|aI @q.iffx <|@e) ?_
    refine ⟨n + 1, ⟨hd, ?_, ?_, ?_, by omega, ?_⟩, by omega⟩
    all_goals (try refine f0 (aI @h2 <|@ho) ?_);all_goals try exact True.intro
  have hni : n = k := by have := of_decide_eq_false h; omega
  subst hni
  have hC := canL_length_le.2 (Nat.lt_of_le_of_lt (Nat.mul_le_mul hB (pow_canL (b := 12) 41 (by decide) hk)) (by decide : 60 ^ 95 * 60 ^ 60 * 60 ^ 41 < 60 ^ 197))
  have q := P83 (B * 12 ^ n) (by omega)
  generalize B * 12 ^ n = C at *
  clear h h2 h10 l12 q12 hB hA
  refine gP (aI @h7 <|aI @ho <|aI @co83 <|aI @sr83 <|@q.iffx) ?_
  refine rP hd @Tryd.results98 ?_
  try exact True.intro
end Go.Proofs.YtpocekfifokndaaDoor
namespace Go.Proofs.YtpocekfifokndaaDoor
open Go Go.Ev Go.Pl
set_option maxRecDepth 100000
set_option maxHeartbeats 4000000
theorem pow60 (M : Nat) : (60 : Nat) ^ M = 2 ^ (2 * M) * 3 ^ M * 5 ^ M := by rw [Nat.pow_mul, ← Nat.mul_pow, ← Nat.mul_pow]
theorem invW_mul (i j k : Nat) : 2 ^ i * 3 ^ j * 5 ^ k * invW i j k = 60 ^ invK i j k := by
  have h1 : i ≤ 2 * invK i j k := by unfold invK; omega
  have h2 : j ≤ invK i j k := by unfold invK; omega
  have h3 : k ≤ invK i j k := by unfold invK; omega
  unfold invW
  generalize invK i j k = M at *
  have e2 : 2 ^ i * 2 ^ (2 * M - i) = 2 ^ (2 * M) := by rw [← Nat.pow_add]; congr 1; omega
  have e3 : 3 ^ j * 3 ^ (M - j) = 3 ^ M := by rw [← Nat.pow_add]; congr 1; omega
  have e5 : 5 ^ k * 5 ^ (M - k) = 5 ^ M := by rw [← Nat.pow_add]; congr 1; omega
  rw [pow60, ← e2, ← e3, ← e5]
  generalize 2 ^ i = a
  generalize 2 ^ (2 * M - i) = a'
  generalize 3 ^ j = b
  generalize 3 ^ (M - j) = b'
  generalize 5 ^ k = c
  generalize 5 ^ (M - k) = c'
  grind
def Rec (A U : Nat) : Prop := ∃ p, A * U = 60 ^ p
theorem Rec.symm {A U : Nat} (h : Rec A U) : Rec U A := by obtain ⟨p, h⟩ := h; exact ⟨p, by rw [Nat.mul_comm]; exact h⟩
theorem Rec.pos {A U : Nat} (h : Rec A U) : 0 < A := by
  obtain ⟨p, h⟩ := h
  rcases Nat.eq_zero_or_pos A with rfl | h0
  · rw [Nat.zero_mul] at h; have := pow_pos p; omega
  · exact h0
theorem Rec.mul {A U B V : Nat} (h : Rec A U) (h' : Rec B V) : Rec (A * B) (U * V) := by
  obtain ⟨p, h⟩ := h
  obtain ⟨q, h'⟩ := h'
  exact ⟨p + q, by rw [Nat.pow_add, ← h, ← h', Nat.mul_mul_mul_comm]⟩
theorem Rec.core {A U : Nat} (h : Rec A U) : Rec (core A) U := by
  have hp := h.pos
  have hu := h.symm.pos
  obtain ⟨p, h⟩ := h
  have e := core_eq A
  have hc : 0 < Go.Pl.core A := by
    rcases Nat.eq_zero_or_pos (Go.Pl.core A) with h0 | h0
    · rw [h0, Nat.zero_mul] at e; omega
    · exact h0
  generalize vz A = v at e
  have h2 : Go.Pl.core A * U * 60 ^ v = 60 ^ p := by rw [← h]; conv => rhs; rw [e]
                                                     rw [Nat.mul_right_comm]
  have hv : v ≤ p := by
    have : 60 ^ v ≤ 60 ^ p := by rw [← h2]; exact Nat.le_mul_of_pos_left _ (Nat.mul_pos hc hu)
    exact (Nat.pow_le_pow_iff_right (by decide)).1 this
  refine ⟨p - v, Nat.eq_of_mul_eq_mul_right (pow_pos v) ?_⟩
  rw [h2, ← Nat.pow_add]; congr 1; omega
theorem Rec.uniq {A U V : Nat} (h : Rec A U) (h' : Rec A V) : Go.Pl.digB U = Go.Pl.digB V := by
  obtain ⟨p, h⟩ := h
  obtain ⟨q, h'⟩ := h'
  have e : U * 60 ^ q = V * 60 ^ p := by rw [← h', ← h, Nat.mul_comm A V, Nat.mul_comm A U, Nat.mul_left_comm, Nat.mul_left_comm V]
  rw [← digB_shift U q, e, digB_shift]
theorem Rec.one {A U : Nat} (h : Rec A U) : Go.Pl.digB (A * U) = [1] := by
  obtain ⟨p, h⟩ := h
  rw [h, show 60 ^ p = 1 * 60 ^ p by rw [Nat.one_mul], digB_shift]
  exact digB_num (l := [1]) (by decide) (by decide) (by decide)
theorem rec_inv (i j k : Nat) : Rec (2 ^ i * 3 ^ j * 5 ^ k) (invW i j k) := ⟨_, invW_mul i j k⟩
theorem cop {R p : Nat} (hp : p = 2 ∨ p = 3 ∨ p = 5) (h : R % p ≠ 0) : Nat.Coprime R p := by
  have h1 : Nat.gcd R p ∣ p := Nat.gcd_dvd_right _ _
  have h2 : Nat.gcd R p ∣ R := Nat.gcd_dvd_left _ _
  have h3 : Nat.gcd R p ≤ p := Nat.le_of_dvd (by omega) h1
  unfold Nat.Coprime
  generalize Nat.gcd R p = g at *
  have h4 : g ≠ p := by rintro rfl; exact h (Nat.mod_eq_zero_of_dvd h2)
  rcases hp with rfl | rfl | rfl
  · have : g = 0 ∨ g = 1 := by omega
    rcases this with rfl | rfl
    · simp at h1
    · rfl
  · have : g = 0 ∨ g = 1 ∨ g = 2 := by omega
    rcases this with rfl | rfl | rfl
    · simp at h1
    · rfl
    · exact absurd h1 (by decide)
  · have : g = 0 ∨ g = 1 ∨ g = 2 ∨ g = 3 ∨ g = 4 := by omega
    rcases this with rfl | rfl | rfl | rfl | rfl
    · simp at h1
    · rfl
    · exact absurd h1 (by decide)
    · exact absurd h1 (by decide)
    · exact absurd h1 (by decide)
theorem rem_dvd (p N : Nat) (hp : 1 < p) (hN : 0 < N) : rem p N ∣ N := ⟨p ^ mult p N, (rem_spec hp hN).1⟩
theorem Rec.split {A U : Nat} (h : Rec A U) : (splitF [2, 3, 5] A).2 = 1 := by
  have hp := h.pos
  obtain ⟨p, h⟩ := h
  show rem 5 (rem 3 (rem 2 A)) = 1
  obtain ⟨_, p2, n2⟩ := rem_spec (p := 2) (by decide) hp
  obtain ⟨_, p3, n3⟩ := rem_spec (p := 3) (by decide) p2
  obtain ⟨_, p5, n5⟩ := rem_spec (p := 5) (by decide) p3
  have d5 := rem_dvd 5 _ (by decide) p3
  have d3 := rem_dvd 3 _ (by decide) p2
  have d2 := rem_dvd 2 _ (by decide) hp
  have c2 : Nat.Coprime (rem 5 (rem 3 (rem 2 A))) 2 := Nat.Coprime.coprime_dvd_left (Nat.dvd_trans d5 d3) (cop (.inl rfl) n2)
  have c3 : Nat.Coprime (rem 5 (rem 3 (rem 2 A))) 3 := Nat.Coprime.coprime_dvd_left d5 (cop (.inr (.inl rfl)) n3)
  have c5 := cop (.inr (.inr rfl)) n5
  have c60 : Nat.Coprime (rem 5 (rem 3 (rem 2 A))) 60 := Nat.Coprime.mul_right (Nat.Coprime.mul_right (Nat.Coprime.mul_right c2 c2) c3) c5
  have hd : rem 5 (rem 3 (rem 2 A)) ∣ 60 ^ p := by
    rw [← h]
    exact Nat.dvd_trans (Nat.dvd_trans d5 (Nat.dvd_trans d3 d2)) (Nat.dvd_mul_right _ _)
  exact Nat.Coprime.eq_one_of_dvd (Nat.Coprime.pow_right p c60) hd
theorem reg_of_rec {a : List Nat} {U : Nat} (ha : Val 16 a) (h : Rec (numL a.reverse) U) : (regS (zi a)).2.2.2 = 0 := by
  have hl : (zi a).length ≠ 0 := by
    intro e
    have : a = [] := by simpa [zi] using e
    subst this
    have := h.pos
    simp [numL] at this
  rw [regS, if_neg (fun e => e ha.chk), if_neg hl, numI_zi, if_neg (fun e => e h.split)]
theorem rec_of_reg {a : List Nat} (h : (regS (zi a)).2.2.2 = 0) : Rec (numL a.reverse) (invW (regS (zi a)).1 (regS (zi a)).2.1 (regS (zi a)).2.2.1) := by
  obtain ⟨_, _, hN⟩ := reg_spec h
  rw [numI_zi] at hN
  rw [hN]
  exact rec_inv _ _ _
theorem Q32 {a : List Nat} {U : Nat} (ha : Val 16 a) (h : Rec (numL a.reverse) U) (hl : (Go.Pl.digB U).length ≤ 16) : Ans X 32 [.sl (nats a)] (.ret (.tup [.sl (nats (Go.Pl.digB U)), vi 0])) := by
  have q := P32 (zi a)
  have h0 := reg_of_rec ha h
  have e := (rec_of_reg h0).uniq h
  rw [recS, if_neg (fun x => x h0), e, if_neg (by omega), ← nats_zi] at q
  exact q
theorem Q31 {a : List Nat} {U : Nat} (ha : Val 16 a) (h : Rec (numL a.reverse) U) : ∃ i j k : Nat, Ans X 31 [.sl (nats a)] (.ret (.tup [vn i, vn j, vn k, vi 0])) := by
  have q := P31 (zi a)
  rw [reg_of_rec ha h, ← nats_zi] at q
  exact ⟨_, _, _, q⟩
theorem inv_len {i j k M : Nat} (h : invK i j k ≤ M) : (Go.Pl.digB (invW i j k)).length ≤ M + 1 :=
  digB_len (Nat.lt_of_le_of_lt (invW_le i j k) (Nat.pow_lt_pow_of_lt (by decide) (by omega)))
end Go.Proofs.YtpocekfifokndaaDoor
namespace Go.Proofs.YtpocekfifokndaaDoor
open Go Go.Ev Go.Pl
set_option maxRecDepth 100000
set_option maxHeartbeats 4000000
theorem cmp_one (R : Nat) (h : 0 < R) : (cmpN R 1 = 0) ↔ R = 1 := by
  unfold cmpN
  rw [if_neg (by omega)]
  by_cases c : 1 < R
  · rw [if_pos c]; omega
  · rw [if_neg c]; omega
theorem P38 (a : List Int) : Ans X 38 [.sl (ints a)] (.ret (.tup [vn (regS a).1, vn (regS a).2.1, vn (regS a).2.2.1, vi (regS a).2.2.2])) := by
  refine call_of_X (fn := Tryd.f38) 1 Tryd.func38 rfl (by decide +kernel) rfl ?_ ?_ ?_ ?_
  · rfl
  · exact fun _ => rfl
  · intro v hv; injection hv with hv; subst hv; rfl
  intro s hs hd ho
  have hm : s.m = ⟨.nil, []⟩ := by subst hs; rfl
  have h0 : s.t.get 0 = .sl (ints a) := by subst hs; rfl
  clear hs
  refine gP (aI @h0 <|aI @hm <|aI @co74 <|aI @sr74 <|((P74 a).iffx)) ?_
  refine cnd (fun h => ?_) (fun h => ?_)
  · have h : chk a ≠ 0 := by simpa using h
    refine gP @Nat.zero_add ?_
    refine rP hd @Tryd.results38 ?_
    try exact True.intro
    rw [regS, if_pos h]; rfl
  have hc : chk a = 0 := by simpa using h
  refine gP (aI @h0 <|aI @hm <|@ints_length) ?_
  refine cnd (fun h => ?_) (fun h => ?_)
  · have h : a.length = 0 := by have h' := eq_of_beq h; omega
    refine gP @Nat.zero_add ?_
    refine rP hd @Tryd.results38 ?_
    try exact True.intro
    rw [regS, if_neg (fun e => e hc), if_pos h]; rfl
  have hl : a.length ≠ 0 := by have h' := ne_of_beq_false h; omega
  obtain ⟨b1, b2, b3, b4, _⟩ := chk_ok hc
  rw [b1] at h0
  have hN := numI_pos hc hl
  have hb := lt_pow_mono (numI_lt hc) (by decide : 16 ≤ 90)
  have hr2 := rem_spec (p := 2) (by decide) hN
  have hr3 := rem_spec (p := 3) (by decide) hr2.2.1
  have hr5 := rem_spec (p := 5) (by decide) hr3.2.1
  have hb2 := Nat.lt_of_le_of_lt (rem_le 2 (numI a)) hb
  have hb3 := Nat.lt_of_le_of_lt (rem_le 3 _) hb2
  have hb5 := Nat.lt_of_le_of_lt (rem_le 5 _) hb3
  have q1 := P85 (natsOf a) b2 (by omega)
  have q1 : Ans X 85 [.sl (nats (natsOf a))] (.ret (.sl (nats (canL (numI a))))) := q1
  have q2 : Ans X 96 [.sl (nats (canL (numI a))), vi 2] _ := P96 (numI a) 2 hN hb (by decide) (by decide)
  have q3 : Ans X 96 [.sl (nats (canL (rem 2 (numI a)))), vi 3] _ := P96 _ 3 hr2.2.1 hb2 (by decide) (by decide)
  have q5 : Ans X 96 [.sl (nats (canL (rem 3 (rem 2 (numI a))))), vi 5] _ := P96 _ 5 hr3.2.1 hb3 (by decide) (by decide)
  have qo : Ans X 95 [vi 1] _ := P95 1 (by decide)
  have qc := P97 (rem 5 (rem 3 (rem 2 (numI a)))) 1 (Nat.lt_of_le_of_lt (canL_length_le.2 hb5) (by decide)) (Nat.lt_of_le_of_lt (canL_length_le.2 (by decide : 1 < 60 ^ 1)) (by decide))
  have hT : (splitF [2, 3, 5] (numI a)).2 = rem 5 (rem 3 (rem 2 (numI a))) := rfl
  have hcm := cmp_one _ hr5.2.1
  rw [regS, if_neg (fun e => e hc), if_neg hl, hT]
  clear hr2 hr3 hr5 hb hb2 hb3 hb5 hN b1 b2 b3 b4 h hT hl hc
  generalize rem 5 (rem 3 (rem 2 (numI a))) = R at *
  refine gPS (aI @h0 <|aI @hm <|aI @co85 <|aI @sr85 <|aI @co95 <|aI @sr95 <|aI @co96 <|aI @sr96 <|aI @co97 <|aI @sr97 <|aI @q1.iffx <|aI @q2.iffx <|aI @q3.iffx <|aI @q5.iffx <|aI @qo.iffx <|@qc.iffx) ?_
  refine cnd (fun h => ?_) (fun h => ?_)
  · have h : ¬ cmpN R 1 = 0 := by simpa using h
    refine gP @Nat.zero_add ?_
    refine rP hd @Tryd.results38 ?_
    try exact True.intro
    rfl
  · have h : cmpN R 1 = 0 := by simpa using h
    refine gP @Nat.zero_add ?_
    refine rP hd @Tryd.results38 ?_
    try exact True.intro
    rw [if_neg (fun e => e (hcm.1 h))]
theorem turn_digB (i j k : Nat) : digB (30 ^ i * 20 ^ j * 12 ^ k) = digB (invW i j k) := by
  have h : Rec (2 ^ i * 3 ^ j * 5 ^ k) (30 ^ i * 20 ^ j * 12 ^ k) := by
    refine ⟨i + j + k, ?_⟩
    rw [Nat.pow_add, Nat.pow_add, show (60 : Nat) ^ i = 2 ^ i * 30 ^ i by rw [← Nat.mul_pow], show (60 : Nat) ^ j = 3 ^ j * 20 ^ j by rw [← Nat.mul_pow], show (60 : Nat) ^ k = 5 ^ k * 12 ^ k by rw [← Nat.mul_pow]]
    grind
  exact h.uniq (rec_inv i j k)
theorem P39 (a : List Int) : Ans X 39 [.sl (ints a)] (.ret (.tup [.sl (nats (recS a).1), vi (recS a).2])) := by
  refine call_of_X (fn := Tryd.f39) 1 Tryd.func39 rfl (by decide +kernel) rfl ?_ ?_ ?_ ?_
  · rfl
  · intro h; exact absurd h (by rw [sr39]; decide)
  · intro v hv; injection hv with hv; subst hv; rfl
  intro s hs hd ho
  have hm : s.m = ⟨.nil, []⟩ := by subst hs; rfl
  have h0 : s.t.get 0 = .sl (ints a) := by subst hs; rfl
  clear hs
  refine gP (aI @h0 <|aI @hm <|aI @co38 <|aI @sr38 <|((P38 a).iffx)) ?_
  refine cnd (fun h => ?_) (fun h => ?_)
  · have h : (regS a).2.2.2 ≠ 0 := by simpa using h
    refine gP @hm ?_
    refine rPAS hd (aI @Tryd.results39 <|@hm) ?_
    try exact True.intro
    rw [recS, if_pos h]; rfl
  have h : (regS a).2.2.2 = 0 := by simpa using h
  obtain ⟨hc, hl, hN⟩ := reg_spec h
  obtain ⟨bi, bj, bk⟩ := reg_bounds (numI_lt hc) hN
  have q := P98 (regS a).1 (regS a).2.1 (regS a).2.2.1 (by omega) (by omega) (by omega)
  rw [turn_digB] at q
  rw [recS, if_neg (fun e => e h)]
  clear hN bi bj bk hc hl
  generalize digB (invW (regS a).1 (regS a).2.1 (regS a).2.2.1) = r at *
  refine gP (aI @hm <|aI @co98 <|aI @sr98 <|aI @q.iffx <|@nats_length) ?_
  refine cnd (fun h => ?_) (fun h => ?_)
  · have h' := of_decide_eq_true h
    refine gP @hm ?_
    refine rPAS hd (aI @Tryd.results39 <|@hm) ?_
    try exact True.intro
    rfl
  · have h' := of_decide_eq_false h
    refine gP @hm ?_
    refine rP hd @Tryd.results39 ?_
    try exact True.intro
    rw [if_neg (by omega)]
end Go.Proofs.YtpocekfifokndaaDoor
namespace Go.Proofs.YtpocekfifokndaaDoor
open Go Go.Ev Go.Pl
set_option maxRecDepth 100000
set_option maxHeartbeats 4000000
theorem P103 (n : Nat) (hn0 : 0 < n) (hn : n < 9000000000000000000) : Ans X 103 [vn n] (.ret (.bool (decide ((splitF [2, 3, 5] n).2 = 1)))) := by
  refine call_of_X (fn := Tryd.f103) 1 Tryd.func103 rfl (by decide +kernel) rfl ?_ ?_ ?_ ?_
  · rfl
  · exact fun _ => rfl
  · intro v hv; injection hv with hv; subst hv; rfl
  intro s hs hd ho
  have h0 : s.t.get 0 = vn n := by subst hs; rfl
  clear hs
  have hT : (splitF [2, 3, 5] n).2 = rem 5 (rem 3 (rem 2 n)) := rfl
  have step : ∀ p x : Nat, 1 < p → p < 10 → x < 9000000000000000000 → V.int .i64 (wr .i64 (Int.tdiv (x : Int) (p : Int))) = vn (x / p) := fun p x _ _ hx => by
    rw [cast_tdiv, wr_nat]
    have := Nat.div_le_self x p
    omega
  have m2 : ∀ x : Nat, Int.tmod (x : Int) 2 = ((x % 2 : Nat) : Int) := fun x => rfl
  have m3 : ∀ x : Nat, Int.tmod (x : Int) 3 = ((x % 3 : Nat) : Int) := fun x => rfl
  have m5 : ∀ x : Nat, Int.tmod (x : Int) 5 = ((x % 5 : Nat) : Int) := fun x => rfl
  rw [hT]
  refine gP @h0 ?_
  refine W_loopg (fun (x : Nat) s => s.dfs = [] ∧ s.m.out.length = 0 ∧ s.t.get 0 = vn x ∧ 0 < x ∧ x ≤ n ∧ rem 2 n = rem 2 x) (fun x => x) n ?_ ?_
  · refine ⟨hd, ?_, ?_, hn0, Nat.le_refl _, rfl⟩
    all_goals (try refine f0 (aI @h0 <|@ho) ?_);all_goals try exact True.intro
  clear hd h0 ho
  rintro x s ⟨hd, ho, h0, hx0, hxn, hre⟩
  refine gPC (aI @h0 <|@m2) ?_
  refine cnd (fun h => ?_) (fun h => ?_)
  · have h : x % 2 = 0 := by have h' := eq_of_beq h; omega
    have e : V.int .i64 (wr .i64 (Int.tdiv (x : Int) 2)) = vn (x / 2) := step 2 x (by decide) (by decide) (by omega)
    have hd2 := Nat.div_lt_self hx0 (by decide : 1 < 2)
    refine gPC (aI @h0 <|@e) ?_
    refine ⟨x / 2, ⟨hd, ?_, ?_, by omega, by omega, ?_⟩, hd2⟩
    all_goals (try refine f0 @ho ?_);all_goals try exact True.intro
    rw [hre, rem_yes (by decide) hx0 h]
  have h : x % 2 ≠ 0 := by have h' := ne_of_beq_false h; omega
  rw [hre, rem_no h]
  clear hre h hn0
  have hxn' : x < 9000000000000000000 := by omega
  clear hxn hn
  refine gP @Nat.zero_add ?_
  refine W_loopg (fun (y : Nat) s => s.dfs = [] ∧ s.m.out.length = 0 ∧ s.t.get 0 = vn y ∧ 0 < y ∧ y ≤ x ∧ rem 3 x = rem 3 y) (fun x => x) x ?_ ?_
  · refine ⟨hd, ?_, ?_, hx0, Nat.le_refl _, rfl⟩
    all_goals (try refine f0 (aI @h0 <|@ho) ?_);all_goals try exact True.intro
  clear hd h0 ho
  rintro y s ⟨hd, ho, h0, hy0, hyn, hre⟩
  refine gPC (aI @h0 <|@m3) ?_
  refine cnd (fun h => ?_) (fun h => ?_)
  · have h : y % 3 = 0 := by have h' := eq_of_beq h; omega
    have e : V.int .i64 (wr .i64 (Int.tdiv (y : Int) 3)) = vn (y / 3) := step 3 y (by decide) (by decide) (by omega)
    have hd2 := Nat.div_lt_self hy0 (by decide : 1 < 3)
    refine gPC (aI @h0 <|@e) ?_
    refine ⟨y / 3, ⟨hd, ?_, ?_, by omega, by omega, ?_⟩, hd2⟩
    all_goals (try refine f0 @ho ?_);all_goals try exact True.intro
    rw [hre, rem_yes (by decide) hy0 h]
  have h : y % 3 ≠ 0 := by have h' := ne_of_beq_false h; omega
  rw [hre, rem_no h]
  clear hre h hx0
  have hyn' : y < 9000000000000000000 := by omega
  clear hyn hxn'
  refine gP @Nat.zero_add ?_
  refine W_loopg (fun (z : Nat) s => s.dfs = [] ∧ s.m.out.length = 0 ∧ s.t.get 0 = vn z ∧ 0 < z ∧ z ≤ y ∧ rem 5 y = rem 5 z) (fun x => x) y ?_ ?_
  · refine ⟨hd, ?_, ?_, hy0, Nat.le_refl _, rfl⟩
    all_goals (try refine f0 (aI @h0 <|@ho) ?_);all_goals try exact True.intro
  clear hd h0 ho
  rintro z s ⟨hd, ho, h0, hz0, hzn, hre⟩
  refine gPC (aI @h0 <|@m5) ?_
  refine cnd (fun h => ?_) (fun h => ?_)
  · have h : z % 5 = 0 := by have h' := eq_of_beq h; omega
    have e : V.int .i64 (wr .i64 (Int.tdiv (z : Int) 5)) = vn (z / 5) := step 5 z (by decide) (by decide) (by omega)
    have hd2 := Nat.div_lt_self hz0 (by decide : 1 < 5)
    refine gPC (aI @h0 <|@e) ?_
    refine ⟨z / 5, ⟨hd, ?_, ?_, by omega, by omega, ?_⟩, hd2⟩
    all_goals (try refine f0 @ho ?_);all_goals try exact True.intro
    rw [hre, rem_yes (by decide) hz0 h]
  have h : z % 5 ≠ 0 := by have h' := ne_of_beq_false h; omega
  rw [hre, rem_no h]
  refine gP @h0 ?_
  refine rP hd @Tryd.results103 ?_
  try exact True.intro
  congr 1
  by_cases c : z = 1
  · subst c; rfl
  · rw [decide_eq_false c, beq_eq_false_iff_ne]; omega
theorem P104 (n : Nat) (hn : n < 1000000) : Ans X 104 [vn n] (.ret (pairV n)) := by
  refine call_of_X (fn := Tryd.f104) 1 Tryd.func104 rfl (by decide +kernel) rfl ?_ ?_ ?_ ?_
  · rfl
  · intro h; exact absurd h (by rw [sr104]; decide)
  · intro v hv; injection hv with hv; subst hv; rfl
  intro s hs hd ho
  have hm : s.m = ⟨.nil, []⟩ := by subst hs; rfl
  have h0 : s.t.get 0 = vn n := by subst hs; rfl
  clear hs
  have q1 := P95 n (by omega)
  have q2 := P83 n (Nat.lt_of_le_of_lt (canL_length_le.2 (show n < 60 ^ 5 by omega)) (by decide))
  have q3 := P39 (zi (digB n))
  rw [← nats_zi] at q3
  unfold pairV
  refine gPAS (aI @h0 <|aI @hm <|aI @co95 <|aI @sr95 <|aI @co83 <|aI @sr83 <|aI @co39 <|aI @sr39 <|aI @q1.iffx <|aI @q2.iffx <|@q3.iffx) ?_
  refine rPAS hd (aI @Tryd.results104 <|@hm) ?_
  try exact True.intro
end Go.Proofs.YtpocekfifokndaaDoor
namespace Go.Proofs.YtpocekfifokndaaDoor
open Go Go.Ev Go.Pl
set_option maxRecDepth 100000
set_option maxHeartbeats 4000000
abbrev pOk (n : Nat) : Prop := (splitF [2, 3, 5] n).2 = 1 ∧ n % 60 ≠ 0
def pairL : Nat → List Nat
  | 0 => []
  | k + 1 => if pOk (k + 1) then pairL k ++ [k + 1] else pairL k
theorem pairL_len : ∀ k, (pairL k).length ≤ k
  | 0 => Nat.le_refl _
  | k + 1 => by
    have := pairL_len k
    rw [pairL]
    split
    · rw [List.length_append, List.length_singleton]; omega
    · omega
abbrev P3l : List Nat := [2, 3, 5]
theorem P3l_get {j : Nat} (h : j < 3) : ∃ p, P3l[j]? = some p ∧ 2 ≤ p ∧ p ≤ 5 ∧ P3l.drop j = p :: P3l.drop (j + 1) := by
  match j, h with
  | 0, _ => exact ⟨2, rfl, by decide, by decide, rfl⟩
  | 1, _ => exact ⟨3, rfl, by decide, by decide, rfl⟩
  | 2, _ => exact ⟨5, rfl, by decide, by decide, rfl⟩
theorem P53 (d : Nat) (hd1 : 1 ≤ d) (hd3 : d ≤ 3) : Ans X 53 [vn d] (.ret (.tup [.sl (pairsV (pairL (60 ^ d - 1))), vi 0])) := by
  refine call_of_X (fn := Tryd.f53) 1 Tryd.func53 rfl (by decide +kernel) rfl ?_ ?_ ?_ ?_
  · rfl
  · intro h; exact absurd h (by rw [sr53]; decide)
  · intro v hv; injection hv with hv; subst hv; rfl
  intro s hs hd ho
  have hm : s.m = ⟨.nil, []⟩ := by subst hs; rfl
  have h0 : s.t.get 0 = vn d := by subst hs; rfl
  clear hs
  have c1 : ¬ (d : Int) < 1 := by omega
  have c2 : ¬ (d : Int) > 3 := by omega
  refine gP (aI @h0 <|aI @hm <|aI @c1 <|@c2) ?_
  refine cnd (fun h => ?_) (fun h => ?_)
  · simp at h
  clear h
  refine gP @h0 ?_
  refine W_loopg (fun (k : Nat) s => s.dfs = [] ∧ s.m = ({ own := Trie.nil, out := [] } : Mem).new 2 1 0 true [] ∧ s.t.get 4 = vn (60 ^ k) ∧ s.t.get 20 = vn d ∧ s.t.get 21 = vn k ∧ k ≤ d) (fun k => d - k) 0 ?_ ?_
  · refine ⟨hd, ?_, ?_, ?_, ?_, Nat.zero_le _⟩
    all_goals (try refine f0 (aI @h0 <|@hm) ?_);all_goals try exact True.intro
    all_goals rfl
  clear hd h0 hm ho c1 c2
  rintro k s ⟨hd, hm, h4, h20, h21, hk⟩
  refine gP (aI @h20 <|@h21) ?_
  refine cnd (fun h => ?_) (fun h => ?_)
  · have hkd : k < d := by have := of_decide_eq_true h; omega
    have hp : 60 ^ (k + 1) ≤ 60 ^ 3 := Nat.pow_le_pow_right (by decide) (by omega)
    have e1 : V.int .i64 (wr .i64 (((60 ^ k : Nat) : Int) * 60)) = vn (60 ^ (k + 1)) := by
      rw [show ((60 ^ k : Nat) : Int) * 60 = ((60 ^ (k + 1) : Nat) : Int) by rw [Nat.pow_succ]; rfl, wr_nat (by omega)]
    have e2 : V.int .i64 (wr .i64 ((k : Int) + 1)) = vn (k + 1) := by rw [wr_i64 (by omega) (by omega)]; rfl
    clear h hp
    refine gP (aI @h4 <|aI @h21 <|aI @e1 <|@e2) ?_
    refine ⟨k + 1, ⟨hd, ?_, ?_, ?_, ?_, hkd⟩, by omega⟩
    all_goals (try refine f0 (aI @h20 <|@hm) ?_);all_goals try exact True.intro
  have hkd : k = d := by have := of_decide_eq_false h; omega
  subst hkd
  clear h h20 h21 hk
  have hE : 60 ^ k ≤ 60 ^ 3 := Nat.pow_le_pow_right (by decide) hd3
  have hE1 : 1 ≤ 60 ^ k := Nat.pow_pos (by decide)
  generalize 60 ^ k = E at *
  clear hd1 hd3
  refine gP @Nat.zero_add ?_
  refine W_loopg (fun (n : Nat) s => s.dfs = [] ∧ s.m.out.length = 0 ∧ s.t.get 4 = vn E ∧ s.t.get 6 = vn (n + 1) ∧ HeldD s.m 0 5 1 69 (s.t.get 5) (pairsV (pairL n)) ∧ n + 1 ≤ E) (fun n => E - n) 0 ?_ ?_
  · refine ⟨hd, ?_, ?_, ?_, ⟨1, 0, ?_, ?_, .inr ⟨rfl, rfl⟩⟩, hE1⟩
    all_goals (try refine fS (aI @h4 <|@hm) ?_);all_goals try exact True.intro
    all_goals rfl
  clear hd h4 hm
  rintro n s ⟨hd, ho, h4, h6, ⟨g, ty, h5, r5, hty⟩, hn⟩
  have hln := pairL_len n
  rw [pairsV_length] at h5 hty
  refine gP (aI @h4 <|@h6) ?_
  refine cnd (fun h => ?_) (fun h => ?_)
  · have hnE : n + 1 < E := by have := of_decide_eq_true h; omega
    clear h
    have e1 : V.int .i64 (wr .i64 (((n + 1 : Nat) : Int) + 1)) = vn (n + 1 + 1) := by rw [wr_i64 (by omega) (by omega)]; rfl
    have hL : pairL (n + 1) = if pOk (n + 1) then pairL n ++ [n + 1] else pairL n := rfl
    have hSR : (splitF [2, 3, 5] (n + 1)).2 = (splitF [2, 3, 5] (n + 1)).2 := rfl
    generalize hR : (splitF [2, 3, 5] (n + 1)).2 = R at hSR
    unfold pOk at hL
    rw [hR] at hL
    clear hSR
    refine gPA @h6 ?_
    refine W_loopg (fun (w : Nat × Nat) s => s.dfs = [] ∧ s.m.out.length = 0 ∧ s.t.get 4 = vn E ∧ s.t.get 5 = .rs ⟨0, 5, 1, g⟩ ty 0 (pairL n).length ∧ s.t.get 6 = vn (n + 1) ∧ s.t.get 7 = vn w.2 ∧ s.t.get 32 = .agg (nats P3l) ∧ s.t.get 33 = vn w.1 ∧
      s.m.row ⟨0, 5, 1, g⟩ = some ⟨g, ty, true, false, pairsV (pairL n)⟩ ∧ w.1 ≤ 3 ∧ 0 < w.2 ∧ w.2 ≤ n + 1 ∧ (splitF (P3l.drop w.1) w.2).2 = R) (fun w => 3 - w.1) (0, n + 1) ?_ ?_
    · refine ⟨hd, ?_, ?_, ?_, ?_, ?_, ?_, ?_, ?_, Nat.zero_le _, Nat.zero_lt_succ _, Nat.le_refl _, hR⟩
      all_goals (try refine f0 (aI @h4 <|aI @h5 <|aI @h6 <|aI @r5 <|@ho) ?_);all_goals try exact True.intro
      all_goals rfl
    clear hd ho h4 h5 h6 r5 hR
    rintro ⟨j, r⟩ s ⟨hd, ho, h4, h5, h6, h7, h32, h33, r5, hj, hr0, hrn, hR⟩
    dsimp only at h7 h33 hj hr0 hrn hR
    refine gP @h33 ?_
    refine cnd (fun h => ?_) (fun h => ?_)
    · have hj3 : j < 3 := by have := of_decide_eq_true h; omega
      clear h
      obtain ⟨p, hp, hp2, hp5, hdrop⟩ := P3l_get hj3
      rw [hdrop, splitF] at hR
      dsimp only at hR
      have gp : (nats P3l)[j]? = some (vn p) := by rw [nats, List.getElem?_map, hp]; rfl
      have j1 : (j : Int) < 3 := by omega
      have j2 : (0 : Int) ≤ (j : Int) := by omega
      have w2 : V.int .i64 (wr .i64 ((j : Int) + 1)) = vn (j + 1) := by rw [wr_i64 (by omega) (by omega)]; rfl
      have hpne : ¬ ((p : Int) = 0) := by omega
      clear hdrop hp
      refine gPA (aI @h7 <|aI @h32 <|aI @h33 <|aI @gp <|aI @j1 <|@j2) ?_
      refine W_loopg (fun (x : Nat) s => s.dfs = [] ∧ s.m.out.length = 0 ∧ s.t.get 4 = vn E ∧ s.t.get 5 = .rs ⟨0, 5, 1, g⟩ ty 0 (pairL n).length ∧ s.t.get 6 = vn (n + 1) ∧ s.t.get 7 = vn x ∧ s.t.get 9 = vn p ∧ s.t.get 32 = .agg (nats P3l) ∧ s.t.get 33 = vn j ∧
        s.m.row ⟨0, 5, 1, g⟩ = some ⟨g, ty, true, false, pairsV (pairL n)⟩ ∧ 0 < x ∧ x ≤ n + 1 ∧ rem p r = rem p x) (fun x => x) r ?_ ?_
      · refine ⟨hd, ?_, ?_, ?_, ?_, ?_, ?_, ?_, ?_, ?_, hr0, hrn, rfl⟩
        all_goals (try refine f0 (aI @h4 <|aI @h5 <|aI @h6 <|aI @h7 <|aI @h32 <|aI @h33 <|aI @r5 <|@ho) ?_);all_goals try exact True.intro
        all_goals first | rfl | simp
      clear hd ho h4 h5 h6 h7 h32 h33 r5 hr0 hrn
      rintro x s ⟨hd, ho, h4, h5, h6, h7, h9, h32, h33, r5, hx0, hxn, hre⟩
      refine gPC (aI @cast_tmod <|aI @h7 <|aI @h9 <|@hpne) ?_
      refine cnd (fun h => ?_) (fun h => ?_)
      · have h : x % p = 0 := by have h' := eq_of_beq h; omega
        have e : V.int .i64 (wr .i64 (Int.tdiv (x : Int) (p : Int))) = vn (x / p) := by
          rw [cast_tdiv, wr_nat]
          have := Nat.div_le_self x p
          omega
        have hd2 := Nat.div_lt_self hx0 (by omega : 1 < p)
        have hdp : 0 < x / p := Nat.div_pos (Nat.le_of_dvd hx0 (Nat.dvd_of_mod_eq_zero h)) (by omega)
        refine gPC (aI @h7 <|aI @h9 <|aI @hpne <|@e) ?_
        refine ⟨x / p, ⟨hd, ?_, ?_, ?_, ?_, ?_, ?_, ?_, ?_, ?_, hdp, by omega, ?_⟩, hd2⟩
        all_goals (try refine f0 (aI @h4 <|aI @h5 <|aI @h6 <|aI @h9 <|aI @h32 <|aI @h33 <|aI @r5 <|@ho) ?_);all_goals try exact True.intro
        rw [hre, rem_yes (by omega) hx0 h]
      have h : x % p ≠ 0 := by have h' := ne_of_beq_false h; omega
      rw [hre, rem_no h] at hR
      refine gP (aI @h33 <|@w2) ?_
      refine ⟨(j + 1, x), ⟨hd, ?_, ?_, ?_, ?_, ?_, ?_, ?_, ?_, by show j + 1 ≤ 3; omega, hx0, hxn, hR⟩, by show 3 - (j + 1) < 3 - j; omega⟩
      all_goals (try refine f0 (aI @h4 <|aI @h5 <|aI @h6 <|aI @h7 <|aI @h32 <|aI @r5 <|@ho) ?_);all_goals try exact True.intro
    · have hj3 : j = 3 := by have := of_decide_eq_false h; omega
      subst hj3
      clear h
      have hR : r = R := hR
      subst hR
      have m60 : Int.tmod ((n + 1 : Nat) : Int) 60 = (((n + 1) % 60 : Nat) : Int) := rfl
      by_cases d1 : r = 1
      · by_cases d2 : (n + 1) % 60 = 0
        · have e2 : ((((n + 1) % 60 : Nat) : Int) == 0) = true := by rw [d2]; rfl
          have e3 : (((r : Nat) : Int) != 1) = false := by rw [d1]; rfl
          rw [if_neg (fun e => e.2 d2)] at hL
          refine gPC (aI @h6 <|aI @h7 <|aI @m60 <|aI @e2 <|@e3) ?_
          refine cnd (fun h => ?_) (fun h => ?_)
          · refine gP (aI @h6 <|@e1) ?_
            refine ⟨n + 1, ⟨hd, ?_, ?_, ?_, ⟨g, ty, ?_, ?_, ?_⟩, by omega⟩, by omega⟩
            all_goals (try refine f0 (aI @h4 <|aI @h5 <|aI @h6 <|aI @r5 <|aI @ho <|aI @hL <|@pairsV_length) ?_);all_goals try exact True.intro
            exact hty
          · simp at h
        · have e2 : ((((n + 1) % 60 : Nat) : Int) == 0) = false := by rw [beq_eq_false_iff_ne]; omega
          have e3 : (((r : Nat) : Int) != 1) = false := by rw [d1]; rfl
          rw [if_pos ⟨d1, d2⟩] at hL
          have q36 := P36 ((n + 1 : Nat) : Int)
          have hof : ofS ((n + 1 : Nat) : Int) = (digB (n + 1), 0) := by
            rw [ofS, if_neg (by omega), Int.toNat_natCast]
          rw [hof] at q36
          have q32 := P32 (zi (digB (n + 1)))
          rw [← nats_zi] at q32
          have hcnt : (pairL n).length < 1000000 := by omega
          clear hof hR d2
          refine gPC (aI @h6 <|aI @h7 <|aI @m60 <|aI @e2 <|@e3) ?_
          refine cnd (fun h => ?_) (fun h => ?_)
          · simp at h
          refine gPAS (aI @h4 <|aI @h5 <|aI @h6 <|aI @ho <|aI @r5 <|aI @hty <|aI @co36 <|aI @sr36 <|aI @q36.iffx <|aI @co32 <|aI @sr32 <|aI @q32.iffx <|aI @pairsV_length <|aI @cut_pairs <|aI @pairsV_snoc <|@e1) ?_
          refine ⟨n + 1, ⟨hd, ?_, ?_, ?_, ⟨g + 1, 69, ?_, ?_, .inl rfl⟩, by omega⟩, by omega⟩
          all_goals (try refine fS (aI @h4 <|aI @h5 <|aI @h6 <|aI @r5 <|aI @ho <|aI @hL <|@pairsV_length) ?_);all_goals try exact True.intro
      · have e3 : (((r : Nat) : Int) != 1) = true := by rw [bne_iff_ne]; omega
        rw [if_neg (fun e => d1 e.1)] at hL
        refine gPC (aI @h6 <|aI @h7 <|@e3) ?_
        refine cnd (fun h => ?_) (fun h => ?_)
        · refine gP (aI @h6 <|@e1) ?_
          refine ⟨n + 1, ⟨hd, ?_, ?_, ?_, ⟨g, ty, ?_, ?_, ?_⟩, by omega⟩, by omega⟩
          all_goals (try refine f0 (aI @h4 <|aI @h5 <|aI @h6 <|aI @r5 <|aI @ho <|aI @hL <|@pairsV_length) ?_);all_goals try exact True.intro
          exact hty
        · simp at h
  · have hnE : n + 1 = E := by have := of_decide_eq_false h; omega
    subst hnE
    clear h
    rw [Nat.add_sub_cancel]
    refine gPS (aI @h5 <|aI @r5 <|@ho) ?_
    refine rPAS hd (aI @Tryd.results53 <|aI @h5 <|aI @r5 <|aI @ho <|aI @pairsV_length <|@cut_pairs) ?_
    try exact True.intro
end Go.Proofs.YtpocekfifokndaaDoor
