/- Part 6 of the proof: an evaluator of the program, proved sound against the model, and what the functions of the program compute. No condition but those each theorem states. -/
import Derived.Test.YtpocekfifokndaaDoorG2
import Derived.Test.YtpocekfifokndaaDoorG3
import Derived.Test.YtpocekfifokndaaDoorG1
set_option linter.unusedSimpArgs false
set_option linter.unusedVariables false
namespace Go.Proofs.YtpocekfifokndaaDoor
open Go Go.Ev Go.Pl
set_option maxRecDepth 100000
set_option maxHeartbeats 4000000
theorem D137n (own oM : Go.Ev.Rows) : ∃ k, evD X k 137 [.ptr ⟨1, 4, 0, 1⟩ 0 0, .ptr ⟨1, 5, 0, 1⟩ 0 0] [own, oM] none = some [own, oM] := by
  refine evD_of (X := X) (fn := Tryd.f137) Tryd.func137 rfl rfl ⟨by decide +kernel, Nat.le_of_ble_eq_true rfl, rfl, co137⟩ rfl ?_
  have hm : (enter [V.ptr ⟨1, 4, 0, 1⟩ 0 0, V.ptr ⟨1, 5, 0, 1⟩ 0 0] [own, oM]).m = ⟨.nil, [own, oM]⟩ := rfl
  have hd : (enter [V.ptr ⟨1, 4, 0, 1⟩ 0 0, V.ptr ⟨1, 5, 0, 1⟩ 0 0] [own, oM]).dfs = [] := rfl
  generalize enter [V.ptr ⟨1, 4, 0, 1⟩ 0 0, V.ptr ⟨1, 5, 0, 1⟩ 0 0] [own, oM] = s at *
  refine WL_k ?_
  intro K hK
  simp (maxSteps := 2000000) (disch := omega) only [SA, ofValue, ofCell, bin, intBin, un, idx, Go.Ev.builtin, calleeOf, V.isNilS, V.depthOk, depth1, V.ok1, V.isAgg, V.cells, isConst, Nat.reduceBEq, Nat.reduceEqDiff, ↓reduceIte, Nat.reduceLeDiff, Nat.reduceAdd, Nat.reduceMul, Nat.reduceSub, Nat.reduceLT, Int.reduceAdd, Int.reduceSub, Int.reduceMul, Int.reduceLT, Int.reduceLE, Int.reduceToNat, Int.reduceNeg, reduceIte, reduceCtorEq, SPx, hm]
  refine hK _ _ ⟨rfl, ?_⟩
  clear hK K
  repeat (first
    | with_reducible first | refine W_seq ?_ | refine W_skip ?_ | refine W_label ?_ | refine W_ret ?_ | refine W_exit ?_ | refine W_block ?_ | refine thenI ?_ | refine thenRet ?_ | refine thenExit ?_ | refine blockRet ?_ | refine blockI ?_ | refine blockExit ?_ | refine blockExitNe rfl ?_
    | (with_reducible refine W_region_k ?_
       intro K hK
       simp (maxSteps := 2000000) (disch := omega) only [SA, ofValue, ofCell, bin, intBin, un, idx, Go.Ev.builtin, calleeOf, V.isNilS, V.depthOk, depth1, V.ok1, V.isAgg, V.cells, isConst, Nat.reduceBEq, Nat.reduceEqDiff, ↓reduceIte, Nat.reduceLeDiff, Nat.reduceAdd, Nat.reduceMul, Nat.reduceSub, Nat.reduceLT, Int.reduceAdd, Int.reduceSub, Int.reduceMul, Int.reduceLT, Int.reduceLE, Int.reduceToNat, Int.reduceNeg, reduceIte, reduceCtorEq, SPx, bin, eqOk, eqT, isConst, Bool.or_true, Option.map_some]
       refine hK _ _ ?_
       clear hK K)
  )
  refine cnd (fun h => ?_) (fun h => ?_)
  · simp at h
  · refine gP @Nat.zero_add ?_
    exact ⟨.inl rfl, by simp [hd], rfl⟩
theorem D137p (own oM : Go.Ev.Rows) (k : Int) (x4 x5 : V) (h4 : (⟨own, [oM]⟩ : Mem).row ⟨1, 4, 0, 1⟩ = some ⟨1, 45, false, false, [x4]⟩) (h5 : (⟨own, [oM]⟩ : Mem).row ⟨1, 5, 0, 1⟩ = some ⟨1, 23, false, false, [x5]⟩) :
    ∃ j, evD X j 137 [.ptr ⟨1, 4, 0, 1⟩ 0 0, .ptr ⟨1, 5, 0, 1⟩ 0 0] [own, oM] (some (.ifc 23 (vi k))) =
      some [((own.upd 4 500 ⟨(own.get 4 500).g + 1, 0, true, false, []⟩).upd 4 0 ⟨1, 45, false, false, [.rs ⟨1, 4, 500, (own.get 4 500).g + 1⟩ 0 0 0]⟩).upd 5 0 ⟨1, 23, false, false, [vi k]⟩, oM] := by
  refine evD_of (X := X) (fn := Tryd.f137) Tryd.func137 rfl rfl ⟨by decide +kernel, Nat.le_of_ble_eq_true rfl, rfl, co137⟩ rfl ?_
  have hm : (enter [V.ptr ⟨1, 4, 0, 1⟩ 0 0, V.ptr ⟨1, 5, 0, 1⟩ 0 0] [own, oM]).m = ⟨.nil, [own, oM]⟩ := rfl
  have hd : (enter [V.ptr ⟨1, 4, 0, 1⟩ 0 0, V.ptr ⟨1, 5, 0, 1⟩ 0 0] [own, oM]).dfs = [] := rfl
  have t0 : (enter [V.ptr ⟨1, 4, 0, 1⟩ 0 0, V.ptr ⟨1, 5, 0, 1⟩ 0 0] [own, oM]).t.get 0 = .ptr ⟨1, 4, 0, 1⟩ 0 0 := rfl
  have t1 : (enter [V.ptr ⟨1, 4, 0, 1⟩ 0 0, V.ptr ⟨1, 5, 0, 1⟩ 0 0] [own, oM]).t.get 1 = .ptr ⟨1, 5, 0, 1⟩ 0 0 := rfl
  generalize enter [V.ptr ⟨1, 4, 0, 1⟩ 0 0, V.ptr ⟨1, 5, 0, 1⟩ 0 0] [own, oM] = s at *
  have h4' : (⟨.nil, [own, oM]⟩ : Mem).row ⟨1, 4, 0, 1⟩ = some ⟨1, 45, false, false, [x4]⟩ := by rw [row_outer _ _ _ _ (by simp), h4]
  have h5' : (⟨.nil, [own, oM]⟩ : Mem).row ⟨1, 5, 0, 1⟩ = some ⟨1, 23, false, false, [x5]⟩ := by rw [row_outer _ _ _ _ (by simp), h5]
  refine WL_k ?_
  intro K hK
  simp (maxSteps := 2000000) (disch := omega) only [SA, ofValue, ofCell, bin, intBin, un, idx, Go.Ev.builtin, calleeOf, V.isNilS, V.depthOk, depth1, V.ok1, V.isAgg, V.cells, isConst, Nat.reduceBEq, Nat.reduceEqDiff, ↓reduceIte, Nat.reduceLeDiff, Nat.reduceAdd, Nat.reduceMul, Nat.reduceSub, Nat.reduceLT, Int.reduceAdd, Int.reduceSub, Int.reduceMul, Int.reduceLT, Int.reduceLE, Int.reduceToNat, Int.reduceNeg, reduceIte, reduceCtorEq, SPx, hm]
  refine hK _ _ ⟨rfl, ?_⟩
  clear hK K
  repeat (first
    | with_reducible first | refine W_seq ?_ | refine W_skip ?_ | refine W_label ?_ | refine W_ret ?_ | refine W_exit ?_ | refine W_block ?_ | refine thenI ?_ | refine thenRet ?_ | refine thenExit ?_ | refine blockRet ?_ | refine blockI ?_ | refine blockExit ?_ | refine blockExitNe rfl ?_
    | (with_reducible refine W_region_k ?_
       intro K hK
       simp (maxSteps := 2000000) (disch := omega) only [SA, ofValue, ofCell, bin, intBin, un, idx, Go.Ev.builtin, calleeOf, V.isNilS, V.depthOk, depth1, V.ok1, V.isAgg, V.cells, isConst, Nat.reduceBEq, Nat.reduceEqDiff, ↓reduceIte, Nat.reduceLeDiff, Nat.reduceAdd, Nat.reduceMul, Nat.reduceSub, Nat.reduceLT, Int.reduceAdd, Int.reduceSub, Int.reduceMul, Int.reduceLT, Int.reduceLE, Int.reduceToNat, Int.reduceNeg, reduceIte, reduceCtorEq, SPx, bin, eqOk, eqT, isConst, Bool.or_true, Option.map_some]
       refine hK _ _ ?_
       clear hK K)
  )
  refine cnd (fun h => ?_) (fun h => ?_)
  · refine gPAS (aI @t0 <|aI @t1 <|aI @h4' <|aI @h5' <|aI @co133 <|aI @sr133 <|aI ((P133 k).iffx) <|aI @Mem.rows_new <|@Mem.rows_lit) ?_
    refine ⟨.inl rfl, by simp [hd], ?_⟩
    simp [Mem.new, Mem.set, outSet]
  · simp at h
theorem fin99 {oM : Go.Ev.Rows} {s : St} {es : List V} {k : Int} (hd : s.dfs = [(137, [.ptr ⟨1, 4, 0, 1⟩ 0 0, .ptr ⟨1, 5, 0, 1⟩ 0 0])]) (ho : s.m.out = [oM]) (h4 : s.t.get 4 = .ptr ⟨1, 4, 0, 1⟩ 0 0) (h5 : s.t.get 5 = .ptr ⟨1, 5, 0, 1⟩ 0 0)
    (r4 : s.m.row ⟨1, 4, 0, 1⟩ = some ⟨1, 45, false, false, [.sl es]⟩) (r5 : s.m.row ⟨1, 5, 0, 1⟩ = some ⟨1, 23, false, false, [vi k]⟩) :
    finQ X Tryd.f99 (.ret (.tup [.sl es, vi k]), [oM]) .ret s := by
  obtain ⟨t, ⟨own, out⟩, dfs⟩ := s
  dsimp only at hd ho h4 h5 r4 r5
  subst ho
  refine fin_ret1 (own := own) (vs := [.sl es, vi k]) hd (D137n own oM) ?_ rfl rfl
  simp (maxSteps := 2000000) (disch := omega) only [SA, ofValue, ofCell, bin, intBin, un, idx, Go.Ev.builtin, calleeOf, V.isNilS, V.depthOk, depth1, V.ok1, V.isAgg, V.cells, isConst, Nat.reduceBEq, Nat.reduceEqDiff, ↓reduceIte, Nat.reduceLeDiff, Nat.reduceAdd, Nat.reduceMul, Nat.reduceSub, Nat.reduceLT, Int.reduceAdd, Int.reduceSub, Int.reduceMul, Int.reduceLT, Int.reduceLE, Int.reduceToNat, Int.reduceNeg, reduceIte, reduceCtorEq, SPx, Tryd.results99, resVars, resVar, h4, h5, r4, r5]
theorem fin99p {oM : Go.Ev.Rows} {s : St} {x4 x5 : V} {k : Int} (hd : s.dfs = [(137, [.ptr ⟨1, 4, 0, 1⟩ 0 0, .ptr ⟨1, 5, 0, 1⟩ 0 0])]) (ho : s.m.out = [oM]) (h4 : s.t.get 4 = .ptr ⟨1, 4, 0, 1⟩ 0 0) (h5 : s.t.get 5 = .ptr ⟨1, 5, 0, 1⟩ 0 0)
    (r4 : s.m.row ⟨1, 4, 0, 1⟩ = some ⟨1, 45, false, false, [x4]⟩) (r5 : s.m.row ⟨1, 5, 0, 1⟩ = some ⟨1, 23, false, false, [x5]⟩) :
    finQ X Tryd.f99 (.ret (.tup [.sl [], vi k]), [oM]) (.panic (.ifc 23 (vi k))) s := by
  obtain ⟨t, ⟨own, out⟩, dfs⟩ := s
  dsimp only at hd ho h4 h5 r4 r5
  subst ho
  refine fin_panic1 (vs := [.rs ⟨1, 4, 500, (own.get 4 500).g + 1⟩ 0 0 0, vi k]) hd (D137p own oM k x4 x5 r4 r5) ?_ ?_ ?_
  · rw [← set_own _ [oM] 1 5 0 _ rfl, ← set_own _ [oM] 1 4 0 _ rfl, ← set_own _ [oM] 1 4 500 _ rfl]
    simp (maxSteps := 2000000) (disch := omega) only [SA, ofValue, ofCell, bin, intBin, un, idx, Go.Ev.builtin, calleeOf, V.isNilS, V.depthOk, depth1, V.ok1, V.isAgg, V.cells, isConst, Nat.reduceBEq, Nat.reduceEqDiff, ↓reduceIte, Nat.reduceLeDiff, Nat.reduceAdd, Nat.reduceMul, Nat.reduceSub, Nat.reduceLT, Int.reduceAdd, Int.reduceSub, Int.reduceMul, Int.reduceLT, Int.reduceLE, Int.reduceToNat, Int.reduceNeg, reduceIte, reduceCtorEq, SPx, Tryd.results99, resVars, resVar, h4, h5, r4, r5]
  · rw [← set_own _ [oM] 1 5 0 _ rfl, ← set_own _ [oM] 1 4 0 _ rfl, ← set_own _ [oM] 1 4 500 _ rfl]
    simp (maxSteps := 2000000) (disch := omega) only [SA, ofValue, ofCell, bin, intBin, un, idx, Go.Ev.builtin, calleeOf, V.isNilS, V.depthOk, depth1, V.ok1, V.isAgg, V.cells, isConst, Nat.reduceBEq, Nat.reduceEqDiff, ↓reduceIte, Nat.reduceLeDiff, Nat.reduceAdd, Nat.reduceMul, Nat.reduceSub, Nat.reduceLT, Int.reduceAdd, Int.reduceSub, Int.reduceMul, Int.reduceLT, Int.reduceLE, Int.reduceToNat, Int.reduceNeg, reduceIte, reduceCtorEq, SPx, SAx, resOf, X_own, mv_tup, mv2s_cons, mv2s_nil, mv2_int, cut, List.take_zero, List.drop_zero]
  · exact frzR_own (fun r ty off len hm => by
      simp [resOf, leaves, leaves2] at hm
      rw [hm.1]; rfl)
theorem M99 (g : FuncId) (cap : List V) (oM : Go.Ev.Rows) (r : Res) (hcap : cap.any V.loose = true) (hco : callOk Tryd.prog g = true) (hsr : scalarRes Tryd.prog g = false) (hg : ∀ own, AnsAt X g cap [own, oM] r)
    (R : Res) (hR : (∃ es, r = .ret (.sl es) ∧ R = .ret (.tup [.sl es, vi 0])) ∨ (∃ k, r = .panic (.ifc 23 (vi k)) ∧ R = .ret (.tup [.sl [], vi k]))) :
    AnsAt X 99 [vi 0, .fn g [] cap] [oM] R := by
  have hne : cap.isEmpty = false := by cases cap with | nil => simp at hcap | cons _ _ => rfl
  refine ⟨rfl, by simp [V.refs, V.loose, hne], fun v hv => ?_, ?_⟩
  · rcases hR with ⟨es, _, rfl⟩ | ⟨k, _, rfl⟩
    · injection hv with hv; subst hv; rfl
    · injection hv with hv; subst hv; rfl
  refine runsAt_of (X := X) (fn := Tryd.f99) Tryd.func99 rfl ⟨by decide +kernel, Nat.le_of_ble_eq_true rfl⟩ ?_
  have hd : (enter [vi 0, V.fn g [] cap] [oM]).dfs = [] := rfl
  have h0 : (enter [vi 0, V.fn g [] cap] [oM]).t.get 0 = vi 0 := rfl
  have h1 : (enter [vi 0, V.fn g [] cap] [oM]).t.get 1 = .fn g [] cap := rfl
  have hm : (enter [vi 0, V.fn g [] cap] [oM]).m = ⟨.nil, [oM]⟩ := rfl
  generalize enter [vi 0, V.fn g [] cap] [oM] = s at *
  refine gPA (aI @h0 <|aI @h1 <|@hm) ?_
  refine cnd (fun h => ?_) (fun h => ?_)
  · simp at h
  refine gPA (aI @h0 <|aI @h1 <|@hm) ?_
  have key : ∀ (m : Mem) (dst : Nat) (K KP : V → Mem → Prop), m.out = [oM] → CallQ X g cap m dst K KP = (match r with | .ret v => K v m | .panic v => KP v m) := by
    intro m dst K KP hmo
    have hh := hg m.own
    rw [← hmo] at hh
    cases r with
    | ret v => exact propext hh.iff
    | panic v => exact propext hh.panics
  with_reducible refine W_region_k ?_
  intro K hK
  simp (maxSteps := 2000000) (disch := omega) only [SA, ofValue, ofCell, bin, intBin, un, idx, Go.Ev.builtin, calleeOf, V.isNilS, V.depthOk, depth1, V.ok1, V.isAgg, V.cells, isConst, Nat.reduceBEq, Nat.reduceEqDiff, ↓reduceIte, Nat.reduceLeDiff, Nat.reduceAdd, Nat.reduceMul, Nat.reduceSub, Nat.reduceLT, Int.reduceAdd, Int.reduceSub, Int.reduceMul, Int.reduceLT, Int.reduceLE, Int.reduceToNat, Int.reduceNeg, reduceIte, reduceCtorEq, SPx, SAx, h0, h1, hm, hd, hco, hsr]
  rw [key _ _ _ _ rfl]
  rcases hR with ⟨es, rfl, rfl⟩ | ⟨k, rfl, rfl⟩
  · simp (maxSteps := 2000000) (disch := omega) only [SA, ofValue, ofCell, bin, intBin, un, idx, Go.Ev.builtin, calleeOf, V.isNilS, V.depthOk, depth1, V.ok1, V.isAgg, V.cells, isConst, Nat.reduceBEq, Nat.reduceEqDiff, ↓reduceIte, Nat.reduceLeDiff, Nat.reduceAdd, Nat.reduceMul, Nat.reduceSub, Nat.reduceLT, Int.reduceAdd, Int.reduceSub, Int.reduceMul, Int.reduceLT, Int.reduceLE, Int.reduceToNat, Int.reduceNeg, reduceIte, reduceCtorEq, SPx, SAx, SSx, appendTo, elemsOf]
    refine hK _ _ ?_
    clear hK K
    refine gP @Nat.zero_add ?_
    refine fin99 (es := es) (k := 0) ?_ ?_ ?_ ?_ ?_ ?_
    all_goals (try refine f0 @hd ?_);all_goals try exact True.intro
    all_goals first | rfl | simp [Mem.new, Mem.set]
  · simp (maxSteps := 2000000) (disch := omega) only [SA, ofValue, ofCell, bin, intBin, un, idx, Go.Ev.builtin, calleeOf, V.isNilS, V.depthOk, depth1, V.ok1, V.isAgg, V.cells, isConst, Nat.reduceBEq, Nat.reduceEqDiff, ↓reduceIte, Nat.reduceLeDiff, Nat.reduceAdd, Nat.reduceMul, Nat.reduceSub, Nat.reduceLT, Int.reduceAdd, Int.reduceSub, Int.reduceMul, Int.reduceLT, Int.reduceLE, Int.reduceToNat, Int.reduceNeg, reduceIte, reduceCtorEq, SPx, SAx, SSx, appendTo, elemsOf]
    refine hK _ _ ?_
    clear hK K
    refine gP @Nat.zero_add ?_
    refine fin99p (k := k) (x4 := .rs ⟨1, 4, 1, 1⟩ 0 0 0) (x5 := vi 0) ?_ ?_ ?_ ?_ ?_ ?_
    all_goals (try refine f0 @hd ?_);all_goals try exact True.intro
    all_goals first | rfl | simp [Mem.new, Mem.set]
theorem M99e (e : Int) (he : e ≠ 0) (g : FuncId) (cap : List V) (oM : Go.Ev.Rows) (hcap : cap.any V.loose = true) : AnsAt X 99 [vi e, .fn g [] cap] [oM] (.ret (.tup [.sl [], vi e])) := by
  have hne : cap.isEmpty = false := by cases cap with | nil => simp at hcap | cons _ _ => rfl
  refine ⟨rfl, by simp [V.refs, V.loose, hne], fun v hv => ?_, ?_⟩
  · injection hv with hv; subst hv; rfl
  refine runsAt_of (X := X) (fn := Tryd.f99) Tryd.func99 rfl ⟨by decide +kernel, Nat.le_of_ble_eq_true rfl⟩ ?_
  have hd : (enter [vi e, V.fn g [] cap] [oM]).dfs = [] := rfl
  have h0 : (enter [vi e, V.fn g [] cap] [oM]).t.get 0 = vi e := rfl
  have h1 : (enter [vi e, V.fn g [] cap] [oM]).t.get 1 = .fn g [] cap := rfl
  have hm : (enter [vi e, V.fn g [] cap] [oM]).m = ⟨.nil, [oM]⟩ := rfl
  generalize enter [vi e, V.fn g [] cap] [oM] = s at *
  refine gPA (aI @h0 <|aI @h1 <|@hm) ?_
  refine cnd (fun h => ?_) (fun h => ?_)
  · refine gPA (aI @h0 <|aI @h1 <|@hm) ?_
    refine fin_ret (X := X) (fn := Tryd.f99) (vs := [.rs ⟨1, 4, 1, 1⟩ 0 0 0, vi e]) hd ?_ ?_ ?_
    · simp (maxSteps := 2000000) (disch := omega) only [SA, ofValue, ofCell, bin, intBin, un, idx, Go.Ev.builtin, calleeOf, V.isNilS, V.depthOk, depth1, V.ok1, V.isAgg, V.cells, isConst, Nat.reduceBEq, Nat.reduceEqDiff, ↓reduceIte, Nat.reduceLeDiff, Nat.reduceAdd, Nat.reduceMul, Nat.reduceSub, Nat.reduceLT, Int.reduceAdd, Int.reduceSub, Int.reduceMul, Int.reduceLT, Int.reduceLE, Int.reduceToNat, Int.reduceNeg, reduceIte, reduceCtorEq, SPx, SAx, Tryd.results99, resVars, resVar]
    · simp (maxSteps := 2000000) (disch := omega) only [SA, ofValue, ofCell, bin, intBin, un, idx, Go.Ev.builtin, calleeOf, V.isNilS, V.depthOk, depth1, V.ok1, V.isAgg, V.cells, isConst, Nat.reduceBEq, Nat.reduceEqDiff, ↓reduceIte, Nat.reduceLeDiff, Nat.reduceAdd, Nat.reduceMul, Nat.reduceSub, Nat.reduceLT, Int.reduceAdd, Int.reduceSub, Int.reduceMul, Int.reduceLT, Int.reduceLE, Int.reduceToNat, Int.reduceNeg, reduceIte, reduceCtorEq, SPx, SAx, resOf, X_own, mv_tup, mv2s_cons, mv2s_nil, mv2_int, cut, List.take_zero, List.drop_zero]
    · refine (frzR_own (fun r ty off len hm => ?_)).trans ?_
      · simp [resOf, leaves, leaves2] at hm
        rw [hm.1]; rfl
      · rfl
  · exact absurd (by simpa using h) he
end Go.Proofs.YtpocekfifokndaaDoor
namespace Go.Proofs.YtpocekfifokndaaDoor
open Go Go.Ev Go.Pl
set_option maxRecDepth 100000
set_option maxHeartbeats 4000000
def HeldD (m : Mem) (d s i : Nat) (T : TypeId) (v : V) (L : List V) : Prop := ∃ g ty, v = .rs ⟨d, s, i, g⟩ ty 0 L.length ∧ m.row ⟨d, s, i, g⟩ = some ⟨g, ty, true, false, L⟩ ∧ (ty = T ∨ ty = 0 ∧ L.length = 0)
def stepL (w f : Nat) : List Nat :=
  if h : 1 < f ∧ 0 < w then
    if hw : (regS (zi (digB f))).2.2.2 = 0 ∧ w % f = 0 then f :: stepL (w / f) f else stepL w (f - 1)
  else []
termination_by w + f
decreasing_by
  · have := Nat.div_lt_self h.2 h.1; omega
  · omega
theorem stepL_yes {w f : Nat} (hf : 1 < f) (hw : 0 < w) (h : (regS (zi (digB f))).2.2.2 = 0 ∧ w % f = 0) : stepL w f = f :: stepL (w / f) f := by rw [stepL, dif_pos ⟨hf, hw⟩, dif_pos h]
theorem stepL_no {w f : Nat} (hf : 1 < f) (hw : 0 < w) (h : ¬ ((regS (zi (digB f))).2.2.2 = 0 ∧ w % f = 0)) : stepL w f = stepL w (f - 1) := by rw [stepL, dif_pos ⟨hf, hw⟩, dif_neg h]
theorem stepL_end {w f : Nat} (hf : ¬ 1 < f) : stepL w f = [] := by rw [stepL, dif_neg (fun e => hf e.1)]
def pairV (f : Nat) : V := .agg [.sl (nats (digB f)), .sl (nats (recS (zi (digB f))).1)]
def pairsV (l : List Nat) : List V := l.map pairV
theorem pairsV_length (l : List Nat) : (pairsV l).length = l.length := by simp [pairsV]
theorem pairsV_snoc (l : List Nat) (f : Nat) : pairsV l ++ [.agg [.sl (nats (digB f)), .sl (nats (recS (zi (digB f))).1)]] = pairsV (l ++ [f]) := by simp [pairsV, pairV]
theorem cut_pairs (l : List Nat) : cut (pairsV l) 0 l.length = pairsV l := by unfold cut; rw [List.drop_zero, List.take_of_length_le (by rw [pairsV_length]; exact Nat.le_refl _)]
theorem P100 (l : List Nat) (hl : ∀ d ∈ l, d < 60) (hlen : l.length ≤ 16) (N : Nat) (hNe : numL l.reverse = N) (hN : 0 < N) (o1 oM : Go.Ev.Rows)
    (hA : (⟨oM, []⟩ : Mem).row ⟨0, 1, 0, 1⟩ = some ⟨1, 22, false, false, [.sl (nats l)]⟩) :
    AnsAt X 100 [.ptr ⟨0, 1, 0, 1⟩ 0 0] [o1, oM] (.ret (.sl (pairsV (stepL N 81)))) := by
  refine ⟨rfl, rfl, fun v hv => ?_, ?_⟩
  · injection hv with hv; subst hv; rfl
  refine runsAt_of (X := X) (fn := Tryd.f100) Tryd.func100 rfl ⟨by decide +kernel, Nat.le_of_ble_eq_true rfl⟩ ?_
  have hd : (enter [V.ptr ⟨0, 1, 0, 1⟩ 0 0] [o1, oM]).dfs = [] := rfl
  have h0 : (enter [V.ptr ⟨0, 1, 0, 1⟩ 0 0] [o1, oM]).t.get 0 = .ptr ⟨0, 1, 0, 1⟩ 0 0 := rfl
  have hm : (enter [V.ptr ⟨0, 1, 0, 1⟩ 0 0] [o1, oM]).m = ⟨.nil, [o1, oM]⟩ := rfl
  generalize enter [V.ptr ⟨0, 1, 0, 1⟩ 0 0] [o1, oM] = s at *
  have hA' : (⟨.nil, [o1, oM]⟩ : Mem).row ⟨0, 1, 0, 1⟩ = some ⟨1, 22, false, false, [.sl (nats l)]⟩ := by rw [row_outer _ _ _ _ (by simp), row_outer _ _ _ _ (by simp), hA]
  have hNb : N < 60 ^ 16 := by
    have := Go.Pl.num_lt (l := l.reverse) (fun d hd => hl d (List.mem_reverse.1 hd))
    rw [List.length_reverse, hNe] at this
    exact lt_pow_mono this hlen
  have q1 := P86 l 0 72 rfl hl (by omega)
  rw [hNe] at q1
  refine gPAW (aI @h0 <|aI @hm <|aI @hA' <|aI @co86 <|aI @sr86 <|@q1.iffx) ?_
  refine W_loopg (fun (x : Nat × Nat × List Nat) s => s.dfs = [] ∧ s.m.out = [o1, oM] ∧ s.t.get 3 = .ptr ⟨2, 3, 0, 1⟩ 0 0 ∧ s.t.get 4 = vn x.2.1 ∧ HeldD s.m 2 2 1 69 (s.t.get 2) (pairsV x.2.2) ∧
    s.m.row ⟨2, 3, 0, 1⟩ = some ⟨1, 100, false, false, [wv (x.1 * 60 ^ 72)]⟩ ∧ 0 < x.1 ∧ x.1 * 2 ^ x.2.2.length ≤ N ∧ x.2.1 ≤ 81 ∧ 0 < x.2.1 ∧ stepL N 81 = x.2.2 ++ stepL x.1 x.2.1) (fun x => x.1 + x.2.1) (N, 81, []) ?_ ?_
  · refine ⟨hd, ?_, ?_, ?_, ⟨1, 0, ?_, ?_, .inr ⟨rfl, rfl⟩⟩, ?_, hN, by simp, Nat.le_refl _, Nat.zero_lt_succ _, rfl⟩
    all_goals (try refine fW @hm ?_);all_goals try exact True.intro
    all_goals rfl
  clear hd h0 hm hA' q1 hA
  rintro ⟨w, f, acc⟩ s ⟨hd, ho, h3, h4, ⟨g, ty, h2, r2, hty⟩, r3, hw, hwN, hf81, hf0, hst⟩
  dsimp only at h4 h2 r2 hty r3 hw hwN hf81 hf0 hst
  rw [pairsV_length] at h2 hty
  refine gP @h4 ?_
  refine cnd (fun h => ?_) (fun h => ?_)
  · have h := of_decide_eq_true h
    have hf1 : 1 < f := by omega
    clear h
    have hwle : w ≤ N := Nat.le_trans (Nat.le_mul_of_pos_right _ (Nat.pow_pos (by decide))) hwN
    have q1 := Q101 w f (Nat.lt_of_le_of_lt hwle (Nat.lt_trans hNb (by decide))) (by omega) (by omega)
    have q2 := P88 f (by omega)
    have q3 := P81 (f * 60 ^ 72) (by
      calc f * 60 ^ 72 < 60 ^ 16 * 60 ^ 72 := Nat.mul_lt_mul_of_pos_right (by omega) (by decide)
        _ ≤ 60 ^ 168 := by decide)
    rw [placeRes_whole (by omega)] at q3
    have q4 := P31 (zi (digB f))
    rw [← nats_zi] at q4
    have hrw : (regS (zi (digB f))).2.2.2 = (regS (zi (digB f))).2.2.2 := rfl
    generalize hre : (regS (zi (digB f))).2.2.2 = e at q4 hrw
    by_cases c : e = 0 ∧ w % f = 0
    · obtain ⟨c1, c2⟩ := c
      have e1 : (e != 0) = false := by rw [c1]; rfl
      have e2 : (((w % f : Nat) : Int) != 0) = false := by rw [c2]; rfl
      have q5 := P32 (zi (digB f))
      rw [← nats_zi] at q5
      have hdiv : 0 < w / f := Nat.div_pos (Nat.le_of_dvd hw (Nat.dvd_of_mod_eq_zero c2)) (by omega)
      have hpow : w / f * 2 ^ (acc ++ [f]).length ≤ N := by
        have h1 : w / f * 2 ≤ w := Nat.le_trans (Nat.mul_le_mul_left _ hf1) (Nat.div_mul_le_self w f)
        have h2 := Nat.mul_le_mul_right (2 ^ acc.length) h1
        rw [List.length_append, List.length_singleton, Nat.pow_succ, Nat.mul_comm (2 ^ _) 2, ← Nat.mul_assoc]
        omega
      have hcnt : acc.length < 100 := by
        have h1 : 2 ^ acc.length ≤ N := Nat.le_trans (Nat.le_mul_of_pos_left _ hw) hwN
        exact Nat.lt_of_lt_of_le ((Nat.pow_lt_pow_iff_right (a := 2) (by decide)).1 (Nat.lt_of_le_of_lt h1 (Nat.lt_trans hNb (by decide : (60 : Nat) ^ 16 < 2 ^ 100)))) (Nat.le_refl _)
      rw [stepL_yes hf1 hw ⟨by rw [hre]; exact c1, c2⟩] at hst
      have hlt : w / f + f < w + f := by have := Nat.div_lt_self hw hf1; omega
      clear hre hrw hwN hwle hNb hNe hl
      refine gPASW (aI @h2 <|aI @h3 <|aI @h4 <|aI @ho <|aI @r2 <|aI @r3 <|aI @hty <|aI @co101 <|aI @sr101 <|aI @co88 <|aI @sr88 <|aI @co81 <|aI @sr81 <|aI @co31 <|aI @sr31 <|aI @co32 <|aI @sr32 <|aI @q1.iffx <|aI @q2.iffx <|aI @q3.iffx <|aI @q4.iffx <|aI @q5.iffx <|aI @e1 <|aI @e2 <|aI @pairsV_length <|aI @cut_pairs <|@pairsV_snoc) ?_
      refine cnd (fun h => ?_) (fun h => ?_)
      · simp at h
      refine gPASW (aI @h2 <|aI @h3 <|aI @h4 <|aI @ho <|aI @r2 <|aI @r3 <|aI @hty <|aI @co32 <|aI @sr32 <|aI @q5.iffx <|aI @pairsV_length <|aI @cut_pairs <|@pairsV_snoc) ?_
      refine ⟨(w / f, f, acc ++ [f]), ⟨hd, ?_, ?_, ?_, ⟨g + 1, 69, ?_, ?_, .inl rfl⟩, ?_, hdiv, hpow, hf81, hf0, ?_⟩, hlt⟩
      all_goals (try refine fSW (aI @h2 <|aI @h3 <|aI @h4 <|aI @r2 <|aI @r3 <|aI @ho <|@pairsV_length) ?_);all_goals try exact True.intro
      · simp [Mem.new, Mem.set, ho]
      · rw [hst]; simp
    · rw [stepL_no hf1 hw (by rw [hre]; exact c)] at hst
      have hlt : w + (f - 1) < w + f := by omega
      have hm1 : f - 1 ≤ 81 ∧ 0 < f - 1 := by omega
      have e4 : V.int .i64 (wr .i64 ((f : Int) - 1)) = vn (f - 1) := by rw [wr_i64 (by omega) (by omega)]; congr 1; omega
      by_cases he : e = 0
      · have e1 : (e != 0) = false := by rw [he]; rfl
        have e2 : (((w % f : Nat) : Int) != 0) = true := by
          have h2 : w % f ≠ 0 := fun x => c ⟨he, x⟩
          rw [bne_iff_ne]; omega
        clear hre hrw hwle hNb hNe hl c
        refine gPASW (aI @h2 <|aI @h3 <|aI @h4 <|aI @ho <|aI @r2 <|aI @r3 <|aI @hty <|aI @co101 <|aI @sr101 <|aI @co88 <|aI @sr88 <|aI @co81 <|aI @sr81 <|aI @co31 <|aI @sr31 <|aI @q1.iffx <|aI @q2.iffx <|aI @q3.iffx <|aI @q4.iffx <|aI @e1 <|@e2) ?_
        refine cnd (fun h => ?_) (fun h => ?_)
        · refine gPASW (aI @h2 <|aI @h3 <|aI @h4 <|aI @ho <|aI @r2 <|aI @r3 <|@e4) ?_
          refine ⟨(w, f - 1, acc), ⟨hd, ?_, ?_, ?_, ⟨g, ty, ?_, ?_, by rw [pairsV_length]; exact hty⟩, ?_, hw, hwN, hm1.1, hm1.2, hst⟩, hlt⟩
          all_goals (try refine fSW (aI @h2 <|aI @h3 <|aI @h4 <|aI @r2 <|aI @r3 <|aI @ho <|@pairsV_length) ?_);all_goals try exact True.intro
          simp [Mem.new, Mem.set, ho]
        · simp at h
      · have e1 : (e != 0) = true := by simpa using he
        clear hre hrw hwle hNb hNe hl c
        refine gPASW (aI @h2 <|aI @h3 <|aI @h4 <|aI @ho <|aI @r2 <|aI @r3 <|aI @hty <|aI @co101 <|aI @sr101 <|aI @co88 <|aI @sr88 <|aI @co81 <|aI @sr81 <|aI @co31 <|aI @sr31 <|aI @q1.iffx <|aI @q2.iffx <|aI @q3.iffx <|aI @q4.iffx <|@e1) ?_
        refine cnd (fun h => ?_) (fun h => ?_)
        · refine gPASW (aI @h2 <|aI @h3 <|aI @h4 <|aI @ho <|aI @r2 <|aI @r3 <|@e4) ?_
          refine ⟨(w, f - 1, acc), ⟨hd, ?_, ?_, ?_, ⟨g, ty, ?_, ?_, by rw [pairsV_length]; exact hty⟩, ?_, hw, hwN, hm1.1, hm1.2, hst⟩, hlt⟩
          all_goals (try refine fSW (aI @h2 <|aI @h3 <|aI @h4 <|aI @r2 <|aI @r3 <|aI @ho <|@pairsV_length) ?_);all_goals try exact True.intro
          simp [Mem.new, Mem.set, ho]
        · simp at h
  · have h := of_decide_eq_false h
    have hf1 : ¬ 1 < f := by omega
    rw [stepL_end hf1, List.append_nil] at hst
    rw [hst]
    refine gPAS (aI @h2 <|aI @r2 <|@ho) ?_
    refine fin_ret (X := X) (fn := Tryd.f100) (vs := [.rs ⟨2, 2, 1, g⟩ ty 0 acc.length]) hd ?_ ?_ ?_
    · simp (maxSteps := 2000000) (disch := omega) only [SA, ofValue, ofCell, bin, intBin, un, idx, Go.Ev.builtin, calleeOf, V.isNilS, V.depthOk, depth1, V.ok1, V.isAgg, V.cells, isConst, Nat.reduceBEq, Nat.reduceEqDiff, ↓reduceIte, Nat.reduceLeDiff, Nat.reduceAdd, Nat.reduceMul, Nat.reduceSub, Nat.reduceLT, Int.reduceAdd, Int.reduceSub, Int.reduceMul, Int.reduceLT, Int.reduceLE, Int.reduceToNat, Int.reduceNeg, reduceIte, reduceCtorEq, SPx, Tryd.results100, resVars, resVar]
    · simp (maxSteps := 2000000) (disch := omega) only [SA, ofValue, ofCell, bin, intBin, un, idx, Go.Ev.builtin, calleeOf, V.isNilS, V.depthOk, depth1, V.ok1, V.isAgg, V.cells, isConst, Nat.reduceBEq, Nat.reduceEqDiff, ↓reduceIte, Nat.reduceLeDiff, Nat.reduceAdd, Nat.reduceMul, Nat.reduceSub, Nat.reduceLT, Int.reduceAdd, Int.reduceSub, Int.reduceMul, Int.reduceLT, Int.reduceLE, Int.reduceToNat, Int.reduceNeg, reduceIte, reduceCtorEq, SPx, SAx, resOf, X_own, r2, pairsV_length, cut_pairs]
    · refine (frzR_own (fun r ty off len hm => ?_)).trans ho
      simp [resOf, leaves, leaves2] at hm
      rw [hm.1, ho]; rfl
end Go.Proofs.YtpocekfifokndaaDoor
namespace Go.Proofs.YtpocekfifokndaaDoor
open Go Go.Ev Go.Pl
set_option maxRecDepth 100000
set_option maxHeartbeats 4000000
theorem P83 (N : Nat) (hN : (canL N).length < 1000) : Ans X 83 [.sl (nats (canL N))] (.ret (.tup [.sl (nats (digB N)), vn (vz N)])) := by
  refine call_of_X (fn := Tryd.f83) 1 Tryd.func83 rfl (by decide +kernel) rfl ?_ ?_ ?_ ?_
  · rfl
  · intro h; exact absurd h (by rw [sr83]; decide)
  · intro v hv; injection hv with hv; subst hv; rfl
  intro s hs hd ho
  have hm : s.m = ⟨.nil, []⟩ := by subst hs; rfl
  have h0 : s.t.get 0 = .sl (nats (canL N)) := by subst hs; rfl
  clear hs
  have hl := canL_len_core N
  repeat (first
    | with_reducible first | refine W_seq ?_ | refine W_skip ?_ | refine W_label ?_ | refine W_ret ?_ | refine W_exit ?_ | refine thenI ?_ | refine thenRet ?_ | refine thenExit ?_ | refine blockRet ?_ | refine blockI ?_ | refine blockExit ?_ | refine blockExitNe rfl ?_
    | (with_reducible refine W_region_k ?_
       intro K hK
       simp (maxSteps := 2000000) (disch := omega) only [SA, ofValue, ofCell, bin, intBin, un, idx, Go.Ev.builtin, calleeOf, V.isNilS, V.depthOk, depth1, V.ok1, V.isAgg, V.cells, isConst, Nat.reduceBEq, Nat.reduceEqDiff, ↓reduceIte, Nat.reduceLeDiff, Nat.reduceAdd, Nat.reduceMul, Nat.reduceSub, Nat.reduceLT, Int.reduceAdd, Int.reduceSub, Int.reduceMul, Int.reduceLT, Int.reduceLE, Int.reduceToNat, Int.reduceNeg, reduceIte, reduceCtorEq, SPx, SSx, appendTo, elemsOf, h0, hm]
       refine hK _ _ ?_
       clear hK K)
  )
  refine W_mid (fun s => s.dfs = [] ∧ s.m.out.length = 0 ∧ s.t.get 0 = .sl (nats (canL N)) ∧ s.t.get 4 = vn (vz N) ∧ s.m.gen 5 1 = 0) ?_ ?_
  · refine gP @Nat.zero_add ?_
    refine W_loopg (fun (k : Nat) s => s.dfs = [] ∧ s.m.out.length = 0 ∧ s.t.get 0 = .sl (nats (canL N)) ∧ s.t.get 4 = vn k ∧ s.m.gen 5 1 = 0 ∧ k ≤ vz N) (fun k => vz N - k) 0 ?_ ?_
    · refine ⟨hd, ?_, ?_, ?_, ?_, Nat.zero_le _⟩
      all_goals (try refine f0 (aI @h0 <|aI @hm <|@filled_nilS) ?_);all_goals try exact True.intro
      · rfl
    clear hd h0 ho hm
    rintro k s ⟨hd, ho, h0, h4, hg, hk⟩
    by_cases hkz : k < vz N
    · have hk2 : (k : Int) < (canL N).length := by omega
      have hg0 : (canL N)[k]? = some 0 := by
        rw [canL_core, List.getElem?_append_left (by rw [List.length_replicate]; exact hkz)]
        simp [hkz]
      refine gPC (aI @nats_length <|aI @nats_get? <|aI @h0 <|aI @h4 <|aI @ho <|aI @hk2 <|aI @hg0 <|@Int.natCast_zero) ?_
      refine cnd (fun h => ?_) (fun h => ?_)
      · refine gPC (aI @h0 <|aI @h4 <|@ho) ?_
        refine ⟨k + 1, ⟨hd, ?_, ?_, ?_, ?_, by omega⟩, by omega⟩
        all_goals (try refine f0 (aI @h0 <|aI @ho <|@hg) ?_);all_goals try exact True.intro
      · simp at h
    obtain rfl : k = vz N := by omega
    by_cases hkl : vz N < (canL N).length
    · have hk2 : ((vz N : Nat) : Int) < (canL N).length := by omega
      have hN0 : 0 < N := by
        rcases Nat.eq_zero_or_pos N with rfl | h'
        · rw [canL_zero] at hkl; simp at hkl
        · exact h'
      have hge : 60 ^ vz N ≤ N := by
        rcases Nat.lt_or_ge N (60 ^ vz N) with h' | h'
        · have := canL_length_le.2 h'; omega
        · exact h'
      have hg0 : (canL N)[vz N]? = some (dig N (vz N)) := by rw [canL_get?, if_pos hge]
      have hne : ¬ (((dig N (vz N) : Nat) : Int) = 0) := by have := vz_dig hN0; omega
      refine gPC (aI @nats_length <|aI @nats_get? <|aI @h0 <|aI @h4 <|aI @ho <|aI @hk2 <|aI @hg0 <|(beq_eq_false_iff_ne.2 hne)) ?_
      refine cnd (fun h => ?_) (fun h => ?_)
      · simp at h
      · refine gP @Nat.zero_add ?_
        refine ⟨hd, ?_, ?_, ?_, ?_⟩
        all_goals (try refine f0 (aI @h0 <|aI @h4 <|aI @ho <|@hg) ?_);all_goals try exact True.intro
    · have hk2 : ¬ (((vz N : Nat) : Int) < (canL N).length) := by omega
      refine gPC (aI @nats_length <|aI @nats_get? <|aI @h0 <|aI @h4 <|aI @ho <|@hk2) ?_
      refine cnd (fun h => ?_) (fun h => ?_)
      · simp at h
      · refine gP @Nat.zero_add ?_
        refine ⟨hd, ?_, ?_, ?_, ?_⟩
        all_goals (try refine f0 (aI @h0 <|aI @h4 <|aI @ho <|@hg) ?_);all_goals try exact True.intro
  clear hd h0 ho hm
  rintro s ⟨hd, ho, h0, h4, hg⟩
  refine gPS (aI @h0 <|aI @h4 <|aI @ho <|aI @hg <|@wr_i64) ?_
  refine W_loopg (fun (k : Nat) s => s.dfs = [] ∧ s.m.out.length = 0 ∧ s.t.get 0 = .sl (nats (canL N)) ∧ s.t.get 4 = vn (vz N) ∧ s.t.get 6 = vi ((canL N).length - 1 - k) ∧ Held s.m 5 1 (s.t.get 5) ((digB N).take k) ∧ k ≤ (digB N).length) (fun k => (digB N).length - k) 0 ?_ ?_
  · refine ⟨hd, ?_, ?_, ?_, ?_, ⟨1, 0, ?_, ?_, .inr ⟨rfl, rfl⟩⟩, Nat.zero_le _⟩
    all_goals (try refine f0 (aI @h0 <|aI @h4 <|aI @ho <|@hg) ?_);all_goals try exact True.intro
    · simp
    · simp
    · simp [nats]
  clear hd h0 ho hg h4
  rintro k s ⟨hd, ho, h0, h4, h6, ⟨g, ty, h5, r5, hty⟩, hk⟩
  have hlen : ((digB N).take k).length = k := by rw [List.length_take]; omega
  rw [hlen] at h5 hty
  refine gP (aI @h0 <|aI @h4 <|aI @h5 <|aI @h6 <|aI @r5 <|@ho) ?_
  refine cnd (fun h => ?_) (fun h => ?_)
  · have h := of_decide_eq_true h
    have hk : k < (digB N).length := by omega
    have hdk := digB_get N hk
    have hcg : (canL N)[(canL N).length - 1 - k]? = some (dig N ((canL N).length - 1 - k)) := by
      rw [canL_get?, if_pos]
      rcases Nat.lt_or_ge N (60 ^ ((canL N).length - 1 - k)) with h' | h'
      · have := canL_length_le.2 h'; omega
      · exact h'
    have hc : ((canL N).length - 1 - (k : Int)).toNat = (canL N).length - 1 - k := by omega
    have hc0 : (0 : Int) ≤ ((canL N).length : Int) - 1 - k := by omega
    have hnat : nats ((digB N).take k) ++ [vn (dig N ((canL N).length - 1 - k))] = nats ((digB N).take (k + 1)) := by
      rw [nats_snoc, List.take_add_one, hdk]; rfl
    have hcut : cut (nats ((digB N).take k)) 0 k = nats ((digB N).take k) := by
      conv => lhs; arg 3; rw [← hlen]
      exact cut_nats _
    refine gPS (aI @cut_one <|aI @hcut <|aI @hnat <|aI @h0 <|aI @h4 <|aI @h5 <|aI @h6 <|aI @r5 <|aI @ho <|aI @hty <|aI @hlen <|aI @nats_get? <|aI @hcg <|aI @hc <|aI @hc0 <|@wr_i64) ?_
    refine ⟨k + 1, ⟨hd, ?_, ?_, ?_, ?_, ⟨g + 1, 3, ?_, ?_, .inl rfl⟩, by omega⟩, by omega⟩
    all_goals (try refine fS (aI @h0 <|aI @h4 <|aI @h5 <|@ho) ?_);all_goals try exact True.intro
    · congr 1; omega
    · rw [List.length_take, Nat.min_eq_left (by omega)]
  · have h := of_decide_eq_false h
    obtain rfl : k = (digB N).length := by omega
    rw [List.take_length] at r5
    refine gP (aI @h4 <|aI @h5 <|@ho) ?_
    refine rPS hd (aI @Tryd.results83 <|aI @mv_rsr <|aI @mv2_rsr <|aI @r5 <|aI @h4 <|aI @h5 <|@ho) ?_
    try exact True.intro
end Go.Proofs.YtpocekfifokndaaDoor
namespace Go.Proofs.YtpocekfifokndaaDoor
open Go Go.Ev Go.Pl
set_option maxRecDepth 100000
set_option maxHeartbeats 4000000
def placeV (N : Nat) (sh : Int) : V := .agg [.sl (nats (digB N)), vi (if N = 0 then 0 else sh + vz N)]
abbrev goodP (N : Nat) (sh : Int) : Prop := N = 0 ∨ ((digB N).length ≤ 16 ∧ -64 ≤ sh + vz N ∧ sh + vz N ≤ 64)
theorem placeRes_at (M t : Nat) (sh : Int) (ht : 72 + sh = t) : placeRes (M * 60 ^ t) = if goodP M sh then .ret (placeV M sh) else .panic (.ifc 23 (vi 3)) := by
  unfold goodP placeV
  rcases Nat.eq_zero_or_pos M with rfl | h
  · rw [placeRes, Nat.zero_mul, if_pos rfl, if_pos (Or.inl rfl), if_pos rfl, digB_zero]; rfl
  · have h1 : M * 60 ^ t ≠ 0 := Nat.mul_ne_zero (by omega) (Nat.pos_iff_ne_zero.1 (pow_pos t))
    have h0 : ¬ M = 0 := by omega
    rw [placeRes, if_neg h1, digB_shift, vz_shift h, if_neg h0]
    have e : ((vz M + t : Nat) : Int) - 72 = sh + vz M := by omega
    rw [e]
    by_cases c : (digB M).length ≤ 16 ∧ -64 ≤ sh + vz M ∧ sh + vz M ≤ 64
    · have g1 : ¬ (16 < (digB M).length ∨ 64 < sh + (vz M : Int) ∨ sh + (vz M : Int) < -64) := by omega
      have g2 : M = 0 ∨ (digB M).length ≤ 16 ∧ -64 ≤ sh + (vz M : Int) ∧ sh + (vz M : Int) ≤ 64 := Or.inr c
      rw [if_neg g1, if_pos g2]
    · have g1 : 16 < (digB M).length ∨ 64 < sh + (vz M : Int) ∨ sh + (vz M : Int) < -64 := by omega
      have g2 : ¬ (M = 0 ∨ (digB M).length ≤ 16 ∧ -64 ≤ sh + (vz M : Int) ∧ sh + (vz M : Int) ≤ 64) := by omega
      rw [if_pos g1, if_neg g2]
theorem P109 (N : Nat) (sh : Int) (hl : (canL N).length < 1000) (h1 : -1000000 < sh) (h2 : sh < 1000000) : Ans X 109 [.sl (nats (canL N)), vi sh] (.ret (.tup [placeV N sh, .bool (decide (goodP N sh))])) := by
  refine call_of_X (fn := Tryd.f109) 2 Tryd.func109 rfl (by decide +kernel) rfl ?_ ?_ ?_ ?_
  · rfl
  · intro h; exact absurd h (by rw [sr109]; decide)
  · intro v hv; injection hv with hv; subst hv; rfl
  intro s hs hd ho
  have hm : s.m = ⟨.nil, []⟩ := by subst hs; rfl
  have h0 : s.t.get 0 = .sl (nats (canL N)) := by subst hs; rfl
  have h1' : s.t.get 1 = vi sh := by subst hs; rfl
  clear hs
  have q := P83 N hl
  have hz : N = 0 ↔ (digB N).length = 0 := by rw [List.length_eq_zero_iff]; exact digB_eq_nil.symm
  have hvz : vz N < 1000 := by have := canL_len_core N; omega
  unfold goodP placeV
  generalize digB N = D at *
  generalize vz N = v at *
  generalize canL N = L at *
  clear hl
  refine gPAS (aI @h0 <|aI @h1' <|aI @hm <|aI @co83 <|aI @sr83 <|aI @q.iffx <|@nats_length) ?_
  refine cnd (fun h => ?_) (fun h => ?_)
  · have h : N = 0 := hz.2 (by have h' := eq_of_beq h; omega)
    have hD : D = [] := List.length_eq_zero_iff.1 (hz.1 h)
    rw [if_pos h, decide_eq_true (.inl h), hD]
    refine gPAS @hm ?_
    refine rPAS hd (aI @Tryd.results109 <|@hm) ?_
    try exact True.intro
    rfl
  have h : ¬ N = 0 := fun e => by
    have := hz.1 e
    rw [this] at h; simp at h
  rw [if_neg h]
  have e1 : V.int .i64 (wr .i64 (sh + (v : Int))) = vi (sh + v) := by rw [wr_i64 (by omega) (by omega)]
  by_cases c1 : D.length ≤ 16
  · have c1' : (D.length : Int) ≤ 16 := by omega
    by_cases c2 : -64 ≤ sh + (v : Int)
    · have c2' : sh + (v : Int) ≥ -64 := c2
      by_cases c3 : sh + (v : Int) ≤ 64
      · have hT : (N = 0 ∨ D.length ≤ 16 ∧ -64 ≤ sh + (v : Int) ∧ sh + (v : Int) ≤ 64) := .inr ⟨c1, c2, c3⟩
        rw [decide_eq_true hT]
        clear hT c1 c2 hz
        refine gPAS (aI @h0 <|aI @h1' <|aI @hm <|aI @nats_length <|aI @rowsOf_aggl <|aI @ptrs_aggl <|aI @e1 <|aI @c1' <|aI @c2' <|@c3) ?_
        refine rPAS hd (aI @Tryd.results109 <|@hm) ?_
        try exact True.intro
      · have hT : ¬ (N = 0 ∨ D.length ≤ 16 ∧ -64 ≤ sh + (v : Int) ∧ sh + (v : Int) ≤ 64) := by omega
        rw [decide_eq_false hT]
        clear hT c1 c2 hz
        refine gPAS (aI @h0 <|aI @h1' <|aI @hm <|aI @nats_length <|aI @rowsOf_aggl <|aI @ptrs_aggl <|aI @e1 <|aI @c1' <|aI @c2' <|@c3) ?_
        refine rPAS hd (aI @Tryd.results109 <|@hm) ?_
        try exact True.intro
    · have hT : ¬ (N = 0 ∨ D.length ≤ 16 ∧ -64 ≤ sh + (v : Int) ∧ sh + (v : Int) ≤ 64) := by omega
      have c2' : ¬ sh + (v : Int) ≥ -64 := c2
      rw [decide_eq_false hT]
      clear hT c1 c2 hz
      refine gPAS (aI @h0 <|aI @h1' <|aI @hm <|aI @nats_length <|aI @rowsOf_aggl <|aI @ptrs_aggl <|aI @e1 <|aI @c1' <|@c2') ?_
      refine rPAS hd (aI @Tryd.results109 <|@hm) ?_
      try exact True.intro
  · have hT : ¬ (N = 0 ∨ D.length ≤ 16 ∧ -64 ≤ sh + (v : Int) ∧ sh + (v : Int) ≤ 64) := by omega
    have c1' : ¬ (D.length : Int) ≤ 16 := by omega
    rw [decide_eq_false hT]
    clear hT c1 hz
    refine gPAS (aI @h0 <|aI @h1' <|aI @hm <|aI @nats_length <|aI @rowsOf_aggl <|aI @ptrs_aggl <|aI @e1 <|@c1') ?_
    refine rPAS hd (aI @Tryd.results109 <|@hm) ?_
    try exact True.intro
theorem P48 (a : List Nat) (sh : Int) (hl : a.length < 1000000000000) : Ans X 48 [.agg [.sl (nats a), vi sh], .agg [.sl (nats a), vi sh]] (.ret (.bool true)) := by
  refine call_of_X (fn := Tryd.f48) 2 Tryd.func48 rfl (by decide +kernel) rfl ?_ ?_ ?_ ?_
  · rfl
  · exact fun _ => rfl
  · intro v hv; injection hv with hv; subst hv; rfl
  intro s hs hd ho
  have hm : s.m = ⟨.nil, []⟩ := by subst hs; rfl
  have h0 : s.t.get 0 = .agg [.sl (nats a), vi sh] := by subst hs; rfl
  have h1 : s.t.get 1 = .agg [.sl (nats a), vi sh] := by subst hs; rfl
  clear hs
  have q := Q25 a hl
  refine gPAS (aI @h0 <|aI @h1 <|aI @hm <|aI @co25 <|aI @sr25 <|@q.iffx) ?_
  refine rP hd @Tryd.results48 ?_
  try exact True.intro
end Go.Proofs.YtpocekfifokndaaDoor
namespace Go.Proofs.YtpocekfifokndaaDoor
open Go Go.Ev Go.Pl
set_option maxRecDepth 100000
set_option maxHeartbeats 4000000
def chkP (a : List Int) (sh : Int) : Int := if chk a ≠ 0 then chk a else if sh < -64 ∨ 64 < sh then 8 else if a.length = 0 ∧ sh ≠ 0 then 5 else 0
theorem P59 (a : List Int) (sh : Int) : Ans X 59 [.agg [.sl (ints a), vi sh]] (.ret (vi (chkP a sh))) := by
  refine call_of_X (fn := Tryd.f59) 1 Tryd.func59 rfl (by decide +kernel) rfl ?_ ?_ ?_ ?_
  · rfl
  · exact fun _ => rfl
  · intro v hv; injection hv with hv; subst hv; rfl
  intro s hs hd ho
  have hm : s.m = ⟨.nil, []⟩ := by subst hs; rfl
  have h0 : s.t.get 0 = .agg [.sl (ints a), vi sh] := by subst hs; rfl
  clear hs
  refine gPA (aI @h0 <|aI @hm <|aI @co28 <|aI @sr28 <|((P28 a).iffx)) ?_
  refine cnd (fun h => ?_) (fun h => ?_)
  · have h : chk a ≠ 0 := by simpa using h
    refine gP @Nat.zero_add ?_
    refine rP hd @Tryd.results59 ?_
    try exact True.intro
    rw [chkP, if_pos h]
  have hc : chk a = 0 := by simpa using h
  rw [chkP, if_neg (fun e => e hc)]
  clear h
  by_cases c1 : sh < -64
  · rw [if_pos (.inl c1)]
    refine gPA (aI @h0 <|aI @hm <|@c1) ?_
    refine cnd (fun h => ?_) (fun h => ?_)
    · refine gP @Nat.zero_add ?_
      refine rP hd @Tryd.results59 ?_
      try exact True.intro
    · simp at h
  by_cases c2 : sh > 64
  · rw [if_pos (.inr c2)]
    refine gPA (aI @h0 <|aI @hm <|aI @c1 <|@c2) ?_
    refine cnd (fun h => ?_) (fun h => ?_)
    · refine gP @Nat.zero_add ?_
      refine rP hd @Tryd.results59 ?_
      try exact True.intro
    · simp at h
  rw [if_neg (by omega)]
  refine gPA (aI @h0 <|aI @hm <|aI @c1 <|aI @c2 <|@ints_length) ?_
  refine cnd (fun h => ?_) (fun h => ?_)
  · simp at h
  clear h
  by_cases c3 : a.length = 0
  · have e3 : (((a.length : Nat) : Int) == 0) = true := by rw [c3]; rfl
    by_cases c4 : sh = 0
    · have e4 : (sh != 0) = false := by rw [c4]; rfl
      rw [if_neg (fun e => e.2 c4)]
      refine gPA (aI @h0 <|aI @hm <|aI @ints_length <|aI @e3 <|@e4) ?_
      refine cnd (fun h => ?_) (fun h => ?_)
      · simp at h
      refine gP @Nat.zero_add ?_
      refine rP hd @Tryd.results59 ?_
      try exact True.intro
    · have e4 : (sh != 0) = true := by simpa using c4
      rw [if_pos ⟨c3, c4⟩]
      refine gPA (aI @h0 <|aI @hm <|aI @ints_length <|aI @e3 <|@e4) ?_
      refine cnd (fun h => ?_) (fun h => ?_)
      · refine gP @Nat.zero_add ?_
        refine rP hd @Tryd.results59 ?_
        try exact True.intro
      · simp at h
  · have e3 : (((a.length : Nat) : Int) == 0) = false := by rw [beq_eq_false_iff_ne]; omega
    rw [if_neg (fun e => c3 e.1)]
    refine gPA (aI @h0 <|aI @hm <|aI @ints_length <|@e3) ?_
    refine cnd (fun h => ?_) (fun h => ?_)
    · simp at h
    refine gP @Nat.zero_add ?_
    refine rP hd @Tryd.results59 ?_
    try exact True.intro
theorem P60 (a : List Int) (sh : Int) : Ans X 60 [.agg [.sl (ints a), vi sh]] (.ret (vi (chkP a sh))) := by
  refine call_of_X (fn := Tryd.f60) 1 Tryd.func60 rfl (by decide +kernel) rfl ?_ ?_ ?_ ?_
  · rfl
  · exact fun _ => rfl
  · intro v hv; injection hv with hv; subst hv; rfl
  intro s hs hd ho
  have hm : s.m = ⟨.nil, []⟩ := by subst hs; rfl
  have h0 : s.t.get 0 = .agg [.sl (ints a), vi sh] := by subst hs; rfl
  clear hs
  refine gPA (aI @h0 <|aI @hm <|aI @co74 <|aI @sr74 <|((P74 a).iffx)) ?_
  refine cnd (fun h => ?_) (fun h => ?_)
  · have h : chk a ≠ 0 := by simpa using h
    refine gP @Nat.zero_add ?_
    refine rP hd @Tryd.results60 ?_
    try exact True.intro
    rw [chkP, if_pos h]
  have hc : chk a = 0 := by simpa using h
  rw [chkP, if_neg (fun e => e hc)]
  clear h
  by_cases c1 : sh < -64
  · rw [if_pos (.inl c1)]
    refine gPA (aI @h0 <|aI @hm <|@c1) ?_
    refine cnd (fun h => ?_) (fun h => ?_)
    · refine gP @Nat.zero_add ?_
      refine rP hd @Tryd.results60 ?_
      try exact True.intro
    · simp at h
  by_cases c2 : sh > 64
  · rw [if_pos (.inr c2)]
    refine gPA (aI @h0 <|aI @hm <|aI @c1 <|@c2) ?_
    refine cnd (fun h => ?_) (fun h => ?_)
    · refine gP @Nat.zero_add ?_
      refine rP hd @Tryd.results60 ?_
      try exact True.intro
    · simp at h
  rw [if_neg (by omega)]
  refine gPA (aI @h0 <|aI @hm <|aI @c1 <|aI @c2 <|@ints_length) ?_
  refine cnd (fun h => ?_) (fun h => ?_)
  · simp at h
  clear h
  by_cases c3 : a.length = 0
  · have e3 : (((a.length : Nat) : Int) == 0) = true := by rw [c3]; rfl
    by_cases c4 : sh = 0
    · have e4 : (sh != 0) = false := by rw [c4]; rfl
      rw [if_neg (fun e => e.2 c4)]
      refine gPA (aI @h0 <|aI @hm <|aI @ints_length <|aI @e3 <|@e4) ?_
      refine cnd (fun h => ?_) (fun h => ?_)
      · simp at h
      refine gP @Nat.zero_add ?_
      refine rP hd @Tryd.results60 ?_
      try exact True.intro
    · have e4 : (sh != 0) = true := by simpa using c4
      rw [if_pos ⟨c3, c4⟩]
      refine gPA (aI @h0 <|aI @hm <|aI @ints_length <|aI @e3 <|@e4) ?_
      refine cnd (fun h => ?_) (fun h => ?_)
      · refine gP @Nat.zero_add ?_
        refine rP hd @Tryd.results60 ?_
        try exact True.intro
      · simp at h
  · have e3 : (((a.length : Nat) : Int) == 0) = false := by rw [beq_eq_false_iff_ne]; omega
    rw [if_neg (fun e => c3 e.1)]
    refine gPA (aI @h0 <|aI @hm <|aI @ints_length <|@e3) ?_
    refine cnd (fun h => ?_) (fun h => ?_)
    · simp at h
    refine gP @Nat.zero_add ?_
    refine rP hd @Tryd.results60 ?_
    try exact True.intro
end Go.Proofs.YtpocekfifokndaaDoor
namespace Go.Proofs.YtpocekfifokndaaDoor
open Go Go.Ev Go.Pl
set_option maxRecDepth 100000
set_option maxHeartbeats 4000000
theorem ap2 {a b c : Nat} (h : a ≤ b) (h2 : b < c) : a < c := Nat.lt_of_le_of_lt h h2
def plcV (p : List Int × Int) : V := .agg [.sl (ints p.1), vi p.2]
def plcsV (l : List (List Int × Int)) : List V := l.map plcV
theorem plcsV_length (l : List (List Int × Int)) : (plcsV l).length = l.length := by simp [plcsV]
theorem plcsV_get {l : List (List Int × Int)} {i : Nat} {p : List Int × Int} (h : l[i]? = some p) : (plcsV l)[i]? = some (.agg [.sl (ints p.1), vi p.2]) := by
  rw [plcsV, List.getElem?_map, h]; rfl
def valN (p : List Int × Int) : Nat := numI p.1 * 60 ^ (p.2 + 64).toNat
def sumN (l : List (List Int × Int)) : Nat := (l.map valN).sum
def ferr : List (List Int × Int) → Int
  | [] => 0
  | p :: l => if chkP p.1 p.2 ≠ 0 then chkP p.1 p.2 else ferr l
def sumS (l : List (List Int × Int)) : List Nat × Int × Int :=
  if 64 < l.length then ([], 0, 3) else if ferr l ≠ 0 then ([], 0, ferr l) else
  if goodP (sumN l) (-64) then (digB (sumN l), if sumN l = 0 then 0 else -64 + (vz (sumN l) : Int), 0) else ([], 0, 3)
theorem chkP_ok {a : List Int} {sh : Int} (h : chkP a sh = 0) : chk a = 0 ∧ -64 ≤ sh ∧ sh ≤ 64 := by
  unfold chkP at h
  by_cases c : chk a = 0
  · rw [if_neg (fun e => e c)] at h
    by_cases c2 : sh < -64 ∨ 64 < sh
    · rw [if_pos c2] at h; exact absurd h (by decide)
    · exact ⟨c, by omega⟩
  · rw [if_pos c] at h; exact absurd h c
theorem ferr_all : ∀ {l : List (List Int × Int)}, ferr l = 0 → ∀ p ∈ l, chkP p.1 p.2 = 0
  | [], _, p, hp => by simp at hp
  | q :: l, h, p, hp => by
    rw [ferr] at h
    by_cases c : chkP q.1 q.2 = 0
    · rw [if_neg (fun e => e c)] at h
      rcases List.mem_cons.1 hp with rfl | hp
      · exact c
      · exact ferr_all h p hp
    · rw [if_pos c] at h; exact absurd h c
theorem valN_lt {p : List Int × Int} (h : chkP p.1 p.2 = 0) : valN p < 60 ^ 144 := by
  obtain ⟨hc, h1, h2⟩ := chkP_ok h
  have hN := numI_lt hc
  calc valN p < 60 ^ 16 * 60 ^ (p.2 + 64).toNat := Nat.mul_lt_mul_of_pos_right hN (pow_pos _)
    _ ≤ 60 ^ 16 * 60 ^ 128 := Nat.mul_le_mul_left _ (Nat.pow_le_pow_right (by decide) (by omega))
    _ = 60 ^ 144 := by rw [← Nat.pow_add]
theorem sumN_le : ∀ {l : List (List Int × Int)}, (∀ p ∈ l, chkP p.1 p.2 = 0) → sumN l ≤ l.length * 60 ^ 144
  | [], _ => by simp [sumN]
  | p :: l, h => by
    have h1 := valN_lt (h p List.mem_cons_self)
    have h2 := sumN_le (l := l) (fun q hq => h q (List.mem_cons_of_mem _ hq))
    have e : sumN (p :: l) = valN p + sumN l := by simp [sumN]
    rw [e, List.length_cons, Nat.succ_mul]
    omega
theorem sumN_take {l : List (List Int × Int)} {i : Nat} {p : List Int × Int} (h : l[i]? = some p) : sumN (l.take (i + 1)) = sumN (l.take i) + valN p := by
  unfold sumN
  rw [List.take_add_one, h]
  simp
theorem P119 (l : List (List Int × Int)) (hl : l.length ≤ 64) (hok : ∀ p ∈ l, chkP p.1 p.2 = 0) (r : Res) (hr : placeRes (sumN l * 60 ^ 8) = r) (o1 oM : Go.Ev.Rows)
    (hA : (⟨oM, []⟩ : Mem).row ⟨0, 1, 0, 1⟩ = some ⟨1, 64, false, false, [.sl (plcsV l)]⟩)
    (hR : (∃ es sh, r = .ret (.agg [.sl (nats es), vi sh])) ∨ (r = .panic (.ifc 23 (vi 3)))) :
    AnsAt X 119 [.ptr ⟨0, 1, 0, 1⟩ 0 0] [o1, oM] r := by
  refine ⟨rfl, rfl, fun v hv => ?_, ?_⟩
  · rcases hR with ⟨es, sh, rfl⟩ | rfl
    · injection hv with hv; subst hv; rfl
    · cases hv
  refine runsAt_of (X := X) (fn := Tryd.f119) Tryd.func119 rfl ⟨by decide +kernel, Nat.le_of_ble_eq_true rfl⟩ ?_
  have hd : (enter [V.ptr ⟨0, 1, 0, 1⟩ 0 0] [o1, oM]).dfs = [] := rfl
  have h0 : (enter [V.ptr ⟨0, 1, 0, 1⟩ 0 0] [o1, oM]).t.get 0 = .ptr ⟨0, 1, 0, 1⟩ 0 0 := rfl
  have hm : (enter [V.ptr ⟨0, 1, 0, 1⟩ 0 0] [o1, oM]).m = ⟨.nil, [o1, oM]⟩ := rfl
  generalize enter [V.ptr ⟨0, 1, 0, 1⟩ 0 0] [o1, oM] = s at *
  have hA' : (⟨.nil, [o1, oM]⟩ : Mem).row ⟨0, 1, 0, 1⟩ = some ⟨1, 64, false, false, [.sl (plcsV l)]⟩ := by rw [row_outer _ _ _ _ (by simp), row_outer _ _ _ _ (by simp), hA]
  refine gPAW (aI @h0 <|aI @hm <|aI @hA' <|@plcsV_length) ?_
  refine W_loopg (fun (k : Nat) s => s.dfs = [] ∧ s.m.out = [o1, oM] ∧ s.t.get 1 = .ptr ⟨2, 1, 0, 1⟩ 0 0 ∧ s.t.get 2 = .ptr ⟨2, 2, 0, 1⟩ 0 0 ∧ s.t.get 5 = .sl (plcsV l) ∧ s.t.get 6 = vn l.length ∧ s.t.get 7 = vn k ∧
    s.m.row ⟨2, 1, 0, 1⟩ = some ⟨1, 54, false, false, [.agg [.rs ⟨2, 1, 1, 1⟩ 0 0 0, vi 0]]⟩ ∧ s.m.row ⟨2, 2, 0, 1⟩ = some ⟨1, 100, false, false, [wv (sumN (l.take k) * 60 ^ 8)]⟩ ∧ k ≤ l.length) (fun k => l.length - k) 0 ?_ ?_
  · refine ⟨hd, ?_, ?_, ?_, ?_, ?_, ?_, ?_, ?_, Nat.zero_le _⟩
    all_goals (try refine fW (aI @hm <|@hA') ?_);all_goals try exact True.intro
    all_goals first | rfl | (refine wrow fun i _ => ?_; simp [sumN, dig])
  clear hd h0 hm hA' hA
  rintro k s ⟨hd, ho, h1, h2, h5, h6, h7, r1, r2, hk⟩
  refine gP (aI @h6 <|@h7) ?_
  refine cnd (fun h => ?_) (fun h => ?_)
  · have hk' : k < l.length := by have := of_decide_eq_true h; omega
    clear h
    obtain ⟨p, hp⟩ : ∃ p, l[k]? = some p := ⟨l[k], by simp⟩
    have hpk := hok p (List.mem_of_getElem? hp)
    obtain ⟨hc, hs1, hs2⟩ := chkP_ok hpk
    obtain ⟨b1, b2, b3, b4, _⟩ := chk_ok hc
    have hg := plcsV_get hp
    rw [b1] at hg
    obtain ⟨t, ht⟩ : ∃ t : Nat, (t : Int) = p.2 + 64 := ⟨(p.2 + 64).toNat, by omega⟩
    have q86 := P86 (natsOf p.1) p.2 (t + 8) (by omega) b2 (by omega)
    have hv : numL (natsOf p.1).reverse * 60 ^ (t + 8) = valN p * 60 ^ 8 := by
      rw [valN, ← ht, Int.toNat_natCast, Nat.pow_add, Nat.mul_assoc]; rfl
    rw [hv] at q86
    have q120 := P120 (sumN (l.take k) * 60 ^ 8) (valN p * 60 ^ 8)
    rw [← Nat.add_mul, ← sumN_take hp] at q120
    have hk1 : (k : Int) < (l.length : Int) := by omega
    have hk0 : (0 : Int) ≤ (k : Int) := by omega
    have e1 : V.int .i64 (wr .i64 ((k : Int) + 1)) = vn (k + 1) := by rw [wr_i64 (by omega) (by omega)]; rfl
    clear b1 b2 b3 b4 hc hpk ht hv
    refine gPASW (aI @h1 <|aI @h2 <|aI @h5 <|aI @h6 <|aI @h7 <|aI @r1 <|aI @r2 <|aI @ho <|aI @hg <|aI @hk1 <|aI @hk0 <|aI @plcsV_length <|aI @co86 <|aI @sr86 <|aI @q86.iffx <|aI @co120 <|aI @sr120 <|aI @q120.iffx <|aI @rowsOf_aggl <|aI @ptrs_aggl <|@e1) ?_
    refine ⟨k + 1, ⟨hd, ?_, ?_, ?_, ?_, ?_, ?_, ?_, ?_, hk'⟩, by omega⟩
    all_goals (try refine fW (aI @h1 <|aI @h2 <|aI @h5 <|aI @h6 <|aI @r1 <|aI @r2 <|@ho) ?_);all_goals try exact True.intro
    simp [Mem.new, Mem.set, ho]
  · have hkl : k = l.length := by have := of_decide_eq_false h; omega
    subst hkl
    rw [List.take_length] at r2
    have hb := sumN_le hok
    have hlt : sumN l * 60 ^ 8 < 60 ^ 168 := by
      have h1 : sumN l ≤ 64 * 60 ^ 144 := Nat.le_trans hb (Nat.mul_le_mul_right _ hl)
      exact Nat.lt_of_le_of_lt (Nat.mul_le_mul_right _ h1) (by decide)
    have q := P81 _ hlt
    rw [hr] at q
    clear h hlt hb hok hr
    rcases hR with ⟨es, sh, rfl⟩ | rfl
    · refine gPASW (aI @h1 <|aI @h2 <|aI @r1 <|aI @r2 <|aI @ho <|aI @co81 <|aI @sr81 <|@q.iffx) ?_
      refine fin_ret (X := X) (fn := Tryd.f119) (vs := [.agg [.sl (nats es), vi sh]]) hd ?_ ?_ ?_
      · simp (maxSteps := 2000000) (disch := omega) only [SA, ofValue, ofCell, bin, intBin, un, idx, Go.Ev.builtin, calleeOf, V.isNilS, V.depthOk, depth1, V.ok1, V.isAgg, V.cells, isConst, Nat.reduceBEq, Nat.reduceEqDiff, ↓reduceIte, Nat.reduceLeDiff, Nat.reduceAdd, Nat.reduceMul, Nat.reduceSub, Nat.reduceLT, Int.reduceAdd, Int.reduceSub, Int.reduceMul, Int.reduceLT, Int.reduceLE, Int.reduceToNat, Int.reduceNeg, reduceIte, reduceCtorEq, SPx, SAx, Tryd.results119, resVars, resVar, h1, r1, ho]
      · simp (maxSteps := 2000000) (disch := omega) only [SA, ofValue, ofCell, bin, intBin, un, idx, Go.Ev.builtin, calleeOf, V.isNilS, V.depthOk, depth1, V.ok1, V.isAgg, V.cells, isConst, Nat.reduceBEq, Nat.reduceEqDiff, ↓reduceIte, Nat.reduceLeDiff, Nat.reduceAdd, Nat.reduceMul, Nat.reduceSub, Nat.reduceLT, Int.reduceAdd, Int.reduceSub, Int.reduceMul, Int.reduceLT, Int.reduceLE, Int.reduceToNat, Int.reduceNeg, reduceIte, reduceCtorEq, SPx, SAx, resOf, X_own]
      · refine (frzR_own (fun r ty off len hm => ?_)).trans ?_
        · simp [resOf, leaves, leaves2] at hm
        · simp [Mem.new, Mem.set, ho]
    · refine gPASW (aI @h1 <|aI @h2 <|aI @r1 <|aI @r2 <|aI @ho <|aI @co81 <|aI @sr81 <|@q.panicsx) ?_
      refine fin_panic hd rfl ?_
      simp [Mem.new, Mem.set, ho]
theorem P55 (l : List (List Int × Int)) : Ans X 55 [.sl (plcsV l)] (.ret (.tup [.agg [.sl (nats (sumS l).1), vi (sumS l).2.1], vi (sumS l).2.2])) := by
  refine call_of_X (fn := Tryd.f55) 1 Tryd.func55 rfl (by decide +kernel) rfl ?_ ?_ ?_ ?_
  · rfl
  · intro h; exact absurd h (by rw [sr55]; decide)
  · intro v hv; injection hv with hv; subst hv; rfl
  intro s hs hd ho
  have hm : s.m = ⟨.nil, []⟩ := by subst hs; rfl
  have h0 : s.t.get 0 = .sl (plcsV l) := by subst hs; rfl
  clear hs
  by_cases c1 : (l.length : Int) > 64
  · refine gPA (aI @h0 <|aI @hm <|aI @plcsV_length <|@c1) ?_
    refine cnd (fun h => ?_) (fun h => ?_)
    · refine gPA @hm ?_
      refine rPAS hd (aI @Tryd.results55 <|@hm) ?_
      try exact True.intro
      rw [sumS, if_pos (by omega)]; rfl
    · simp at h
  have hl : l.length ≤ 64 := by omega
  rw [sumS, if_neg (by omega)]
  refine gPA (aI @h0 <|aI @hm <|aI @plcsV_length <|@c1) ?_
  refine cnd (fun h => ?_) (fun h => ?_)
  · simp at h
  clear h
  refine gPA (aI @h0 <|aI @hm <|@plcsV_length) ?_
  refine W_loopg (fun (k : Nat) s => s.dfs = [] ∧ s.m.out = [] ∧ s.t.get 1 = .ptr ⟨0, 1, 0, 1⟩ 0 0 ∧ s.t.get 2 = .ptr ⟨0, 2, 0, 1⟩ 0 0 ∧ s.t.get 11 = .sl (plcsV l) ∧ s.t.get 12 = vn l.length ∧ s.t.get 13 = vn k ∧
    s.m.row ⟨0, 1, 0, 1⟩ = some ⟨1, 64, false, false, [.sl (plcsV l)]⟩ ∧ s.m.row ⟨0, 2, 0, 1⟩ = some ⟨1, 54, false, false, [.agg [.rs ⟨0, 2, 1, 1⟩ 0 0 0, vi 0]]⟩ ∧ k ≤ l.length ∧ ferr l = ferr (l.drop k)) (fun k => l.length - k) 0 ?_ ?_
  · refine ⟨hd, ?_, ?_, ?_, ?_, ?_, ?_, ?_, ?_, Nat.zero_le _, rfl⟩
    all_goals (try refine f0 (aI @h0 <|@hm) ?_);all_goals try exact True.intro
    all_goals rfl
  clear hd h0 hm ho
  rintro k s ⟨hd, ho, h1, h2, h11, h12, h13, r1, r2, hk, hf⟩
  refine gP (aI @h12 <|@h13) ?_
  refine cnd (fun h => ?_) (fun h => ?_)
  · have hk' : k < l.length := by have := of_decide_eq_true h; omega
    clear h
    obtain ⟨p, hp⟩ : ∃ p, l[k]? = some p := ⟨l[k], by simp⟩
    have hg := plcsV_get hp
    have q := P59 p.1 p.2
    have hk1 : (k : Int) < (l.length : Int) := by omega
    have hk0 : (0 : Int) ≤ (k : Int) := by omega
    have e1 : V.int .i64 (wr .i64 ((k : Int) + 1)) = vn (k + 1) := by rw [wr_i64 (by omega) (by omega)]; rfl
    have hdrop : l.drop k = p :: l.drop (k + 1) := by
      rw [List.drop_eq_getElem_cons hk']
      congr 1
      rw [List.getElem?_eq_getElem hk'] at hp
      exact Option.some.inj hp
    rw [hdrop, ferr] at hf
    refine gPAS (aI @h1 <|aI @h2 <|aI @h11 <|aI @h12 <|aI @h13 <|aI @r1 <|aI @r2 <|aI @ho <|aI @hg <|aI @hk1 <|aI @hk0 <|aI @plcsV_length <|aI @co59 <|aI @sr59 <|@q.iffx) ?_
    refine cnd (fun h => ?_) (fun h => ?_)
    · have h : chkP p.1 p.2 ≠ 0 := by simpa using h
      rw [if_pos h] at hf
      refine gPA (aI @h1 <|aI @h2 <|aI @r2 <|@ho) ?_
      refine rPAS hd (aI @Tryd.results55 <|aI @h2 <|aI @r2 <|@ho) ?_
      try exact True.intro
      rw [hf]; rfl
    · have h : chkP p.1 p.2 = 0 := by simpa using h
      rw [if_neg (fun e => e h)] at hf
      refine gP (aI @h13 <|@e1) ?_
      refine ⟨k + 1, ⟨hd, ?_, ?_, ?_, ?_, ?_, ?_, ?_, ?_, hk', hf⟩, by omega⟩
      all_goals (try refine f0 (aI @h1 <|aI @h2 <|aI @h11 <|aI @h12 <|aI @r1 <|aI @r2 <|@ho) ?_);all_goals try exact True.intro
      simp [Mem.new, Mem.set, ho]
  · have hkl : k = l.length := by have := of_decide_eq_false h; omega
    subst hkl
    rw [List.drop_length, ferr] at hf
    rw [if_neg (fun e => e hf)]
    have hok := ferr_all hf
    have key : ∀ (m : Mem) (dst : Nat) (K KP : V → Mem → Prop), m.out = [] → m.row ⟨0, 1, 0, 1⟩ = some ⟨1, 64, false, false, [.sl (plcsV l)]⟩ →
        (CallQ X 118 [vi 0, .fn 119 [] [.ptr ⟨0, 1, 0, 1⟩ 0 0]] m dst K KP ↔ K (.tup [.agg [.sl (nats (if goodP (sumN l) (-64) then (digB (sumN l), if sumN l = 0 then 0 else -64 + (vz (sumN l) : Int), 0) else ([], 0, 3) : List Nat × Int × Int).1), vi (if goodP (sumN l) (-64) then (digB (sumN l), if sumN l = 0 then 0 else -64 + (vz (sumN l) : Int), 0) else ([], 0, 3) : List Nat × Int × Int).2.1], vi (if goodP (sumN l) (-64) then (digB (sumN l), if sumN l = 0 then 0 else -64 + (vz (sumN l) : Int), 0) else ([], 0, 3) : List Nat × Int × Int).2.2]) m) := by
      rintro ⟨own, out⟩ dst K KP ho r1
      dsimp only at ho
      subst ho
      have hpr := placeRes_at (sumN l) 8 (-64) rfl
      by_cases c : goodP (sumN l) (-64)
      · rw [if_pos c] at hpr ⊢
        exact AnsAt.iff (m := ⟨own, []⟩) (M118 119 _ own _ rfl co119 sr119 (fun o1 => P119 l hl hok _ hpr o1 own r1 (.inl ⟨_, _, rfl⟩)) _ (.inl ⟨_, _, rfl, rfl⟩))
      · rw [if_neg c] at hpr ⊢
        exact AnsAt.iff (m := ⟨own, []⟩) (M118 119 _ own _ rfl co119 sr119 (fun o1 => P119 l hl hok _ hpr o1 own r1 (.inr rfl)) _ (.inr ⟨3, rfl, rfl⟩))
    generalize (if goodP (sumN l) (-64) then (digB (sumN l), if sumN l = 0 then 0 else -64 + (vz (sumN l) : Int), 0) else ([], 0, 3) : List Nat × Int × Int) = R at *
    clear h hok hf
    refine gP @Nat.zero_add ?_
    with_reducible refine W_region_k ?_
    intro K hK
    simp (maxSteps := 2000000) (disch := omega) only [SA, ofValue, ofCell, bin, intBin, un, idx, Go.Ev.builtin, calleeOf, V.isNilS, V.depthOk, depth1, V.ok1, V.isAgg, V.cells, isConst, Nat.reduceBEq, Nat.reduceEqDiff, ↓reduceIte, Nat.reduceLeDiff, Nat.reduceAdd, Nat.reduceMul, Nat.reduceSub, Nat.reduceLT, Int.reduceAdd, Int.reduceSub, Int.reduceMul, Int.reduceLT, Int.reduceLE, Int.reduceToNat, Int.reduceNeg, reduceIte, reduceCtorEq, SPx, SAx, h1, h2, r1, r2, ho, co118, sr118]
    rw [key _ _ _ _ ho r1]
    simp (maxSteps := 2000000) (disch := omega) only [SA, ofValue, ofCell, bin, intBin, un, idx, Go.Ev.builtin, calleeOf, V.isNilS, V.depthOk, depth1, V.ok1, V.isAgg, V.cells, isConst, Nat.reduceBEq, Nat.reduceEqDiff, ↓reduceIte, Nat.reduceLeDiff, Nat.reduceAdd, Nat.reduceMul, Nat.reduceSub, Nat.reduceLT, Int.reduceAdd, Int.reduceSub, Int.reduceMul, Int.reduceLT, Int.reduceLE, Int.reduceToNat, Int.reduceNeg, reduceIte, reduceCtorEq, SPx, SAx, h2, r2, ho]
    refine hK _ _ ?_
    clear hK K
    refine gP @Nat.zero_add ?_
    refine rPA hd (aI @Tryd.results55 <|aI @h2 <|aI @r2 <|@ho) ?_
    try exact True.intro
end Go.Proofs.YtpocekfifokndaaDoor
namespace Go.Proofs.YtpocekfifokndaaDoor
open Go Go.Ev Go.Pl
set_option maxRecDepth 100000
set_option maxHeartbeats 4000000
def ofS (n : Int) : List Nat × Int := if n < 0 ∨ 1099511627776 < n then ([], 8) else (digB n.toNat, 0)
theorem P36 (n : Int) : Ans X 36 [vi n] (.ret (.tup [.sl (nats (ofS n).1), vi (ofS n).2])) := by
  refine call_of_X (fn := Tryd.f36) 1 Tryd.func36 rfl (by decide +kernel) rfl ?_ ?_ ?_ ?_
  · rfl
  · intro h; exact absurd h (by rw [sr36]; decide)
  · intro v hv; injection hv with hv; subst hv; rfl
  intro s hs hd ho
  have hm : s.m = ⟨.nil, []⟩ := by subst hs; rfl
  have h0 : s.t.get 0 = vi n := by subst hs; rfl
  clear hs
  by_cases c1 : n < 0
  · refine gP (aI @h0 <|aI @hm <|@c1) ?_
    refine cnd (fun h => ?_) (fun h => ?_)
    · refine gP @hm ?_
      refine rPAS hd (aI @Tryd.results36 <|@hm) ?_
      try exact True.intro
      rw [ofS, if_pos (.inl c1)]; rfl
    · simp at h
  by_cases c2 : n > 1099511627776
  · refine gP (aI @h0 <|aI @hm <|aI @c1 <|@c2) ?_
    refine cnd (fun h => ?_) (fun h => ?_)
    · refine gP @hm ?_
      refine rPAS hd (aI @Tryd.results36 <|@hm) ?_
      try exact True.intro
      rw [ofS, if_pos (.inr c2)]; rfl
    · simp at h
  obtain ⟨k, rfl⟩ : ∃ k : Nat, n = k := ⟨n.toNat, by omega⟩
  have hk16 : k < 60 ^ 16 := by omega
  have q1 := P88 k (by omega)
  have q2 := P81 (k * 60 ^ 72) (by
    calc k * 60 ^ 72 < 60 ^ 16 * 60 ^ 72 := Nat.mul_lt_mul_of_pos_right hk16 (by decide)
      _ ≤ 60 ^ 168 := by decide)
  rw [placeRes_whole hk16] at q2
  rw [ofS, if_neg (by omega), Int.toNat_natCast]
  clear hk16
  refine gP (aI @h0 <|aI @hm <|aI @c1 <|@c2) ?_
  refine cnd (fun h => ?_) (fun h => ?_)
  · simp at h
  refine gPAW (aI @h0 <|aI @hm <|aI @co88 <|aI @sr88 <|aI @co81 <|aI @sr81 <|aI @q1.iffx <|@q2.iffx) ?_
  refine rP hd @Tryd.results36 ?_
  try exact True.intro
theorem int_step (N j : Nat) (hj : 0 < j) : N / 60 ^ (j - 1) = N / 60 ^ j * 60 + dig N (j - 1) := by
  have := div_succ N (j - 1)
  rwa [show j - 1 + 1 = j by omega] at this
theorem P105 (N : Nat) (hN : N < 60 ^ 168) : Ans X 105 [wv N, vi 1099511627776] (.ret (.tup (if N / 60 ^ 72 ≤ 1099511627776 then [vn (N / 60 ^ 72), .bool true] else [vi 0, .bool false]))) := by
  refine call_of_X (fn := Tryd.f105) 2 Tryd.func105 rfl (by decide +kernel) rfl ?_ ?_ ?_ ?_
  · simp only [List.any_cons, List.any_nil, wv_refs]; rfl
  · intro _; split <;> rfl
  · intro v hv; injection hv with hv; subst hv; split <;> rfl
  intro s hs hd ho
  have hm : s.m = ⟨.nil, []⟩ := by subst hs; rfl
  have h0 : s.t.get 0 = .agg (wc (dig N)) := by subst hs; rfl
  have h1 : s.t.get 1 = vi 1099511627776 := by subst hs; rfl
  clear hs
  refine gPW (aI @h0 <|aI @h1 <|@hm) ?_
  refine W_loopg (fun (j : Nat) s => s.dfs = [] ∧ s.m.out.length = 0 ∧ s.t.get 1 = vi 1099511627776 ∧ s.t.get 2 = .ptr ⟨0, 2, 0, 1⟩ 0 0 ∧ s.t.get 6 = vn (N / 60 ^ j) ∧ s.t.get 7 = vn (j - 1) ∧
    s.m.row ⟨0, 2, 0, 1⟩ = some ⟨1, 100, false, false, [.agg (wc (dig N))]⟩ ∧ 72 ≤ j ∧ j ≤ 168 ∧ N / 60 ^ j ≤ 1099511627776) (fun j => j) 168 ?_ ?_
  · have hz : N / 60 ^ 168 = 0 := Nat.div_eq_of_lt hN
    rw [hz]
    refine ⟨hd, ?_, ?_, ?_, ?_, ?_, ?_, by decide, Nat.le_refl _, Nat.zero_le _⟩
    all_goals (try refine fW (aI @h0 <|aI @h1 <|@hm) ?_);all_goals try exact True.intro
    all_goals rfl
  clear hd ho hm h0 h1 hN
  rintro j s ⟨hd, ho, h1, h2, h6, h7, r2, hj1, hj2, hle⟩
  refine gP @h7 ?_
  refine cnd (fun h => ?_) (fun h => ?_)
  · have hj : 73 ≤ j := by have := of_decide_eq_true h; omega
    clear h
    have hst := int_step N j (by omega)
    have hd60 := dig_lt N (j - 1)
    have hmono : N / 60 ^ (j - 1) ≤ N / 60 ^ 72 := by
      have e : (60 : Nat) ^ (j - 1) = 60 ^ 72 * 60 ^ (j - 1 - 72) := by rw [← Nat.pow_add]; congr 1; omega
      rw [e, ← Nat.div_div_eq_div_mul]; exact Nat.div_le_self _ _
    generalize N / 60 ^ j = q at *
    generalize hdg : dig N (j - 1) = d at *
    have hidx : j - 1 < 168 := by omega
    have hi0 : (0 : Int) ≤ ((j - 1 : Nat) : Int) := by omega
    have hi1 : ((j - 1 : Nat) : Int) < (168 : Int) := by omega
    have hi2 : ((j - 1 : Nat) : Int) < ((168 : Nat) : Int) := by omega
    have hget : (wc (dig N))[j - 1]? = some (vn d) := by rw [wc_get _ hidx, hdg]
    have g1 : V.int .i64 (wr .i64 ((1099511627776 : Int) - d)) = vn (1099511627776 - d) := by rw [wr_i64 (by omega) (by omega)]; congr 1; omega
    have g2 : V.int .i64 (wr .i64 (Int.tdiv ((1099511627776 - d : Nat) : Int) 60)) = vn ((1099511627776 - d) / 60) := by rw [cast_tdiv60, wr_nat (by omega)]
    have g3 : V.int .i64 (wr .i64 ((q : Int) * 60)) = vn (q * 60) := by rw [cast_mul60, wr_nat (by omega)]
    have g5 : V.int .i64 (wr .i64 ((j - 1 : Nat) - (1 : Int))) = vn (j - 1 - 1) := by rw [wr_i64 (by omega) (by omega)]; congr 1; omega
    by_cases c : q > (1099511627776 - d) / 60
    · have c' : ((q : Nat) : Int) > (((1099511627776 - d) / 60 : Nat) : Int) := by omega
      rw [if_neg (by omega)]
      clear hst hmono hle
      repeat (first
        | with_reducible first | refine W_seq ?_ | refine W_skip ?_ | refine W_label ?_ | refine W_ret ?_ | refine W_exit ?_ | refine W_block ?_ | refine thenI ?_ | refine thenRet ?_ | refine thenExit ?_ | refine blockRet ?_ | refine blockI ?_ | refine blockExit ?_ | refine blockExitNe rfl ?_
        | (with_reducible refine W_region_k ?_
           intro K hK
           simp (maxSteps := 2000000) (disch := omega) only [SA, ofValue, ofCell, bin, intBin, un, idx, Go.Ev.builtin, calleeOf, V.isNilS, V.depthOk, depth1, V.ok1, V.isAgg, V.cells, isConst, Nat.reduceBEq, Nat.reduceEqDiff, ↓reduceIte, Nat.reduceLeDiff, Nat.reduceAdd, Nat.reduceMul, Nat.reduceSub, Nat.reduceLT, Int.reduceAdd, Int.reduceSub, Int.reduceMul, Int.reduceLT, Int.reduceLE, Int.reduceToNat, Int.reduceNeg, reduceIte, reduceCtorEq, SPx, SWx, h1, h2, h6, h7, r2, hidx, hi0, hi1, hi2, hget, Int.reduceEq, g1, g2, c']
           refine hK _ _ ?_
           clear hK K)
      )
      refine cnd (fun h => ?_) (fun h => ?_)
      · refine gP @Nat.zero_add ?_
        refine rP hd @Tryd.results105 ?_
        try exact True.intro
      · simp at h
    · have c' : ¬ ((q : Nat) : Int) > (((1099511627776 - d) / 60 : Nat) : Int) := by omega
      have hle2 : q * 60 + d ≤ 1099511627776 := by omega
      have g4 : V.int .i64 (wr .i64 (((q * 60 : Nat) : Int) + d)) = vn (N / 60 ^ (j - 1)) := by rw [cast_add, wr_nat (by omega), hst]
      have hm2 : j - 1 < j ∧ 72 ≤ j - 1 ∧ j - 1 ≤ 168 ∧ N / 60 ^ (j - 1) ≤ 1099511627776 := by omega
      clear hst hmono hle
      repeat (first
        | with_reducible first | refine W_seq ?_ | refine W_skip ?_ | refine W_label ?_ | refine W_ret ?_ | refine W_exit ?_ | refine W_block ?_ | refine thenI ?_ | refine thenRet ?_ | refine thenExit ?_ | refine blockRet ?_ | refine blockI ?_ | refine blockExit ?_ | refine blockExitNe rfl ?_
        | (with_reducible refine W_region_k ?_
           intro K hK
           simp (maxSteps := 2000000) (disch := omega) only [SA, ofValue, ofCell, bin, intBin, un, idx, Go.Ev.builtin, calleeOf, V.isNilS, V.depthOk, depth1, V.ok1, V.isAgg, V.cells, isConst, Nat.reduceBEq, Nat.reduceEqDiff, ↓reduceIte, Nat.reduceLeDiff, Nat.reduceAdd, Nat.reduceMul, Nat.reduceSub, Nat.reduceLT, Int.reduceAdd, Int.reduceSub, Int.reduceMul, Int.reduceLT, Int.reduceLE, Int.reduceToNat, Int.reduceNeg, reduceIte, reduceCtorEq, SPx, SWx, h1, h2, h6, h7, r2, hidx, hi0, hi1, hi2, hget, Int.reduceEq, g1, g2, c']
           refine hK _ _ ?_
           clear hK K)
      )
      refine cnd (fun h => ?_) (fun h => ?_)
      · simp at h
      refine gPW (aI @h1 <|aI @h2 <|aI @h6 <|aI @h7 <|aI @r2 <|aI @hidx <|aI @hi0 <|aI @hi1 <|aI @hi2 <|aI @hget <|aI @g3 <|aI @g4 <|@g5) ?_
      refine ⟨j - 1, ⟨hd, ?_, ?_, ?_, ?_, ?_, ?_, hm2.2.1, hm2.2.2.1, hm2.2.2.2⟩, hm2.1⟩
      all_goals (try refine f0 (aI @ho <|aI @h1 <|aI @h2 <|@r2) ?_);all_goals try exact True.intro
  · have hj : j = 72 := by have := of_decide_eq_false h; omega
    subst hj
    clear h
    rw [if_pos hle]
    clear hle
    refine gP @h6 ?_
    refine rP hd @Tryd.results105 ?_
    try exact True.intro
def whS (a : List Int) : Int × Int := if chk a ≠ 0 then (0, chk a) else if numI a ≤ 1099511627776 then ((numI a : Int), 0) else (0, 6)
theorem P43 (a : List Int) : Ans X 43 [.sl (ints a)] (.ret (.tup [vi (whS a).1, vi (whS a).2])) := by
  refine call_of_X (fn := Tryd.f43) 1 Tryd.func43 rfl (by decide +kernel) rfl ?_ ?_ ?_ ?_
  · rfl
  · exact fun _ => rfl
  · intro v hv; injection hv with hv; subst hv; rfl
  intro s hs hd ho
  have hm : s.m = ⟨.nil, []⟩ := by subst hs; rfl
  have h0 : s.t.get 0 = .sl (ints a) := by subst hs; rfl
  clear hs
  refine gP (aI @h0 <|aI @hm <|aI @co28 <|aI @sr28 <|((P28 a).iffx)) ?_
  refine cnd (fun h => ?_) (fun h => ?_)
  · have h : chk a ≠ 0 := by simpa using h
    refine gP @Nat.zero_add ?_
    refine rP hd @Tryd.results43 ?_
    try exact True.intro
    rw [whS, if_pos h]
  have hc : chk a = 0 := by simpa using h
  rw [whS, if_neg (fun e => e hc)]
  obtain ⟨b1, b2, b3, b4, _⟩ := chk_ok hc
  rw [b1] at h0
  have hb := numI_lt hc
  have q1 : Ans X 86 [.sl (nats (natsOf a)), vi 0] (.ret (wv (numI a * 60 ^ 72))) := P86 (natsOf a) 0 72 rfl b2 (by omega)
  have q2 := P105 (numI a * 60 ^ 72) (by
    calc numI a * 60 ^ 72 < 60 ^ 16 * 60 ^ 72 := Nat.mul_lt_mul_of_pos_right hb (by decide)
      _ ≤ 60 ^ 168 := by decide)
  rw [Nat.mul_div_cancel _ (pow_pos 72)] at q2
  clear h hb b1 b2 b3 b4
  by_cases c : numI a ≤ 1099511627776
  · rw [if_pos c] at q2 ⊢
    clear c
    refine gPW (aI @h0 <|aI @co86 <|aI @sr86 <|aI @co105 <|aI @sr105 <|aI @q1.iffx <|@q2.iffx) ?_
    refine cnd (fun h => ?_) (fun h => ?_)
    · simp at h
    refine gP @Nat.zero_add ?_
    refine rP hd @Tryd.results43 ?_
    try exact True.intro
  · rw [if_neg c] at q2 ⊢
    clear c
    refine gPW (aI @h0 <|aI @co86 <|aI @sr86 <|aI @co105 <|aI @sr105 <|aI @q1.iffx <|@q2.iffx) ?_
    refine cnd (fun h => ?_) (fun h => ?_)
    · refine gP @Nat.zero_add ?_
      refine rP hd @Tryd.results43 ?_
      try exact True.intro
    · simp at h
end Go.Proofs.YtpocekfifokndaaDoor
namespace Go.Proofs.YtpocekfifokndaaDoor
open Go Go.Ev Go.Pl
set_option maxRecDepth 100000
set_option maxHeartbeats 4000000
def ratF : List Nat → Nat → Nat → Option (Nat × Nat)
  | [], x, d => some (x, d)
  | p :: ps, x, d => if x % p = 0 then ratF ps (x / p) d else if 1048576 < d * p then none else ratF ps x (d * p)
def ratK : Nat → Nat → Nat → Option (Nat × Nat)
  | 0, x, d => some (x, d)
  | k + 1, x, d => (ratF [2, 2, 3, 5] x d).bind fun y => ratK k y.1 y.2
def ratE (r : Option (Nat × Nat)) : Nat × Nat × Int :=
  match r with
  | none => (0, 0, 6)
  | some y => if y.1 ≤ 1099511627776 then (y.1, y.2, 0) else (0, 0, 6)
def ratS (p : List Int × Int) : Nat × Nat × Int :=
  if chkP p.1 p.2 ≠ 0 then (0, 0, chkP p.1 p.2) else if p.1.length = 0 then (0, 1, 0) else ratE (ratK (-p.2).toNat (numI p.1 * 60 ^ p.2.toNat) 1)
abbrev P4l : List Nat := [2, 2, 3, 5]
theorem P4l_get {j : Nat} (h : j < 4) : ∃ p, P4l[j]? = some p ∧ 2 ≤ p ∧ p ≤ 5 ∧ P4l.drop j = p :: P4l.drop (j + 1) := by
  match j, h with
  | 0, _ => exact ⟨2, rfl, by decide, by decide, rfl⟩
  | 1, _ => exact ⟨2, rfl, by decide, by decide, rfl⟩
  | 2, _ => exact ⟨3, rfl, by decide, by decide, rfl⟩
  | 3, _ => exact ⟨5, rfl, by decide, by decide, rfl⟩
theorem P101w (x n : Nat) (hx : x < 60 ^ 96) (hn0 : 0 < n) (hn : n < 1000000000000) : Ans X 101 [wv (x * 60 ^ 72), vn n] (.ret (.tup [wv (x / n * 60 ^ 72), vn (x % n)])) := by
  have h := P101 (x * 60 ^ 72) n (by
    calc x * 60 ^ 72 < 60 ^ 96 * 60 ^ 72 := Nat.mul_lt_mul_of_pos_right hx (by decide)
      _ = 60 ^ 168 := by decide) hn0 hn
  rw [Nat.mul_div_cancel _ (by decide), Nat.mul_mod_left, Nat.add_zero] at h
  exact h
theorem P105w (x : Nat) (hx : x < 60 ^ 96) : Ans X 105 [wv (x * 60 ^ 72), vi 1099511627776] (.ret (.tup (if x ≤ 1099511627776 then [vn x, .bool true] else [vi 0, .bool false]))) := by
  have h := P105 (x * 60 ^ 72) (by
    calc x * 60 ^ 72 < 60 ^ 96 * 60 ^ 72 := Nat.mul_lt_mul_of_pos_right hx (by decide)
      _ = 60 ^ 168 := by decide)
  rw [Nat.mul_div_cancel _ (by decide)] at h
  exact h
theorem P61 (p : List Int × Int) : Ans X 61 [.agg [.sl (ints p.1), vi p.2]] (.ret (.tup [.agg [vn (ratS p).1, vn (ratS p).2.1], vi (ratS p).2.2])) := by
  refine call_of_X (fn := Tryd.f61) 1 Tryd.func61 rfl (by decide +kernel) rfl ?_ ?_ ?_ ?_
  · rfl
  · intro h; exact absurd h (by rw [sr61]; decide)
  · intro v hv; injection hv with hv; subst hv; rfl
  intro s hs hd ho
  have hm : s.m = ⟨.nil, []⟩ := by subst hs; rfl
  have h0 : s.t.get 0 = .agg [.sl (ints p.1), vi p.2] := by subst hs; rfl
  clear hs
  obtain ⟨a, sh⟩ := p
  dsimp only at h0
  refine gPA (aI @h0 <|aI @hm <|aI @co59 <|aI @sr59 <|((P59 a sh).iffx)) ?_
  refine cnd (fun h => ?_) (fun h => ?_)
  · have h : chkP a sh ≠ 0 := by simpa using h
    rw [ratS, if_pos h]
    refine gPA @hm ?_
    refine rPA hd (aI @Tryd.results61 <|@hm) ?_
    try exact True.intro
    rfl
  have hc : chkP a sh = 0 := by simpa using h
  rw [ratS, if_neg (fun e => e hc)]
  clear h
  dsimp only
  by_cases hl : a.length = 0
  · have e1 : (((a.length : Nat) : Int) == 0) = true := by rw [hl]; rfl
    rw [if_pos hl]
    refine gPA (aI @h0 <|aI @hm <|aI @ints_length <|@e1) ?_
    refine cnd (fun h => ?_) (fun h => ?_)
    · refine gPA @hm ?_
      refine rPA hd (aI @Tryd.results61 <|@hm) ?_
      try exact True.intro
      rfl
    · simp at h
  have e1 : (((a.length : Nat) : Int) == 0) = false := by rw [beq_eq_false_iff_ne]; omega
  rw [if_neg hl]
  refine gPA (aI @h0 <|aI @hm <|aI @ints_length <|@e1) ?_
  refine cnd (fun h => ?_) (fun h => ?_)
  · simp at h
  clear h
  obtain ⟨hk, hs1, hs2⟩ := chkP_ok hc
  obtain ⟨b1, b2, b3, b4, _⟩ := chk_ok hk
  obtain ⟨t, ht⟩ : ∃ t : Nat, (t : Int) = (if (0 : Int) > sh then 0 else sh) := ⟨sh.toNat, by split <;> omega⟩
  obtain ⟨u, hu⟩ : ∃ u : Nat, (u : Int) = 0 - (if (0 : Int) < sh then 0 else sh) := ⟨(-sh).toNat, by split <;> omega⟩
  have et : sh.toNat = t := by split at ht <;> omega
  have eu : (-sh).toNat = u := by split at hu <;> omega
  have ht64 : t ≤ 64 ∧ u ≤ 64 := by omega
  have q86 : Ans X 86 [.sl (ints a), vn t] (.ret (wv (numI a * 60 ^ (72 + t)))) := by
    rw [b1]
    exact P86 (natsOf a) t (72 + t) (by omega) b2 (by rw [b4]; omega)
  have hN := numI_lt hk
  rw [et, eu]
  have hx0 : numI a * 60 ^ t < 60 ^ 96 := by
    calc numI a * 60 ^ t < 60 ^ 16 * 60 ^ t := Nat.mul_lt_mul_of_pos_right hN (pow_pos t)
      _ = 60 ^ (16 + t) := (Nat.pow_add ..).symm
      _ ≤ 60 ^ 96 := Nat.pow_le_pow_right (by decide) (by omega)
  rw [show numI a * 60 ^ (72 + t) = numI a * 60 ^ t * 60 ^ 72 by rw [Nat.pow_add, Nat.mul_comm (60 ^ 72), Nat.mul_assoc]] at q86
  generalize numI a * 60 ^ t = x0 at *
  have wt : V.int .i64 (if (0 : Int) > sh then 0 else sh) = vn t := by rw [← ht]
  have wu : V.int .i64 (wr .i64 (0 - (if (0 : Int) < sh then 0 else sh))) = vn u := by rw [← hu, wr_nat (by omega)]
  have hR : ratE (ratK u x0 1) = ratE (ratK u x0 1) := rfl
  generalize hRR : ratE (ratK u x0 1) = R at hR ⊢
  clear b1 b2 b3 b4 hk hs1 hs2 et eu hN e1
  clear ht hu
  refine gPASW (aI @h0 <|aI @hm <|aI @wt <|aI @wu <|aI @co86 <|aI @sr86 <|@q86.iffx) ?_
  refine W_loopg (fun (w : Nat × Nat × Nat) s => s.dfs = [] ∧ s.m.out.length = 0 ∧ s.t.get 2 = .ptr ⟨0, 2, 0, 1⟩ 0 0 ∧ s.t.get 5 = .ptr ⟨0, 5, 0, 1⟩ 0 0 ∧ s.t.get 6 = vn w.2.2 ∧ s.t.get 33 = vn u ∧ s.t.get 34 = vn w.1 ∧
    s.m.row ⟨0, 2, 0, 1⟩ = some ⟨1, 76, false, false, [.agg [vi 0, vi 0]]⟩ ∧ s.m.row ⟨0, 5, 0, 1⟩ = some ⟨1, 100, false, false, [wv (w.2.1 * 60 ^ 72)]⟩ ∧
    w.1 ≤ u ∧ w.2.1 < 60 ^ 96 ∧ w.2.2 ≤ 1048576 ∧ ratE (ratK (u - w.1) w.2.1 w.2.2) = R) (fun w => u - w.1) (0, x0, 1) ?_ ?_
  · refine ⟨hd, ?_, ?_, ?_, ?_, ?_, ?_, ?_, ?_, Nat.zero_le _, hx0, by show 1 ≤ 1048576; omega, hRR⟩
    all_goals (try refine fW (aI @h0 <|@hm) ?_);all_goals try exact True.intro
    all_goals rfl
  clear hd ho h0 hm hRR hR q86 wt wu hx0 hc hl
  rintro ⟨k, x, d⟩ s ⟨hd, ho, h2, h5, h6, h33, h34, r2, r5, hk, hx, hdd, hR⟩
  dsimp only at h6 h34 r5 hk hx hdd hR
  refine gP (aI @h33 <|@h34) ?_
  refine cnd (fun h => ?_) (fun h => ?_)
  · have hku : k < u := by have := of_decide_eq_true h; omega
    clear h
    rw [show u - k = (u - (k + 1)) + 1 by omega, ratK] at hR
    refine gPA @Nat.zero_add ?_
    refine W_loopg (fun (w : Nat × Nat × Nat) s => s.dfs = [] ∧ s.m.out.length = 0 ∧ s.t.get 2 = .ptr ⟨0, 2, 0, 1⟩ 0 0 ∧ s.t.get 5 = .ptr ⟨0, 5, 0, 1⟩ 0 0 ∧ s.t.get 6 = vn w.2.2 ∧ s.t.get 33 = vn u ∧ s.t.get 34 = vn k ∧ s.t.get 36 = .agg (nats P4l) ∧ s.t.get 37 = vn w.1 ∧
      s.m.row ⟨0, 2, 0, 1⟩ = some ⟨1, 76, false, false, [.agg [vi 0, vi 0]]⟩ ∧ s.m.row ⟨0, 5, 0, 1⟩ = some ⟨1, 100, false, false, [wv (w.2.1 * 60 ^ 72)]⟩ ∧
      w.1 ≤ 4 ∧ w.2.1 < 60 ^ 96 ∧ w.2.2 ≤ 1048576 ∧ ratE ((ratF (P4l.drop w.1) w.2.1 w.2.2).bind fun y => ratK (u - (k + 1)) y.1 y.2) = R) (fun w => 4 - w.1) (0, x, d) ?_ ?_
    · refine ⟨hd, ?_, ?_, ?_, ?_, ?_, ?_, ?_, ?_, ?_, ?_, Nat.zero_le _, hx, hdd, hR⟩
      all_goals (try refine f0 (aI @h2 <|aI @h5 <|aI @h6 <|aI @h33 <|aI @h34 <|aI @r2 <|aI @r5 <|@ho) ?_);all_goals try exact True.intro
      all_goals rfl
    clear hd ho h2 h5 h6 h33 h34 r2 r5 hx hdd hR
    clear hk
    rintro ⟨j, x, d⟩ s ⟨hd, ho, h2, h5, h6, h33, h34, h36, h37, r2, r5, hj, hx, hdd, hR⟩
    dsimp only at h6 h37 r5 hj hx hdd hR
    refine gP @h37 ?_
    refine cnd (fun h => ?_) (fun h => ?_)
    · have hj4 : j < 4 := by have := of_decide_eq_true h; omega
      clear h
      obtain ⟨p, hp, hp2, hp5, hdrop⟩ := P4l_get hj4
      rw [hdrop, ratF] at hR
      have q1 := P101w x p hx (by omega) (by omega)
      have gp : (nats P4l)[j]? = some (vn p) := by rw [nats, List.getElem?_map, hp]; rfl
      have j1 : (j : Int) < 4 := by omega
      have j2 : (0 : Int) ≤ (j : Int) := by omega
      have w1 : V.int .i64 (wr .i64 ((d : Int) * p)) = vn (d * p) := by
        have hle : d * p ≤ 1048576 * 5 := Nat.mul_le_mul hdd hp5
        rw [show (d : Int) * p = ((d * p : Nat) : Int) from (Int.natCast_mul d p).symm, wr_nat (by omega)]
      have w2 : V.int .i64 (wr .i64 ((j : Int) + 1)) = vn (j + 1) := by rw [wr_i64 (by omega) (by omega)]; rfl
      clear hdrop hp
      refine gPASW (aI @h2 <|aI @h5 <|aI @h6 <|aI @h33 <|aI @h34 <|aI @h36 <|aI @h37 <|aI @r2 <|aI @r5 <|aI @ho <|aI @gp <|aI @j1 <|aI @j2 <|aI @co101 <|aI @sr101 <|@q1.iffx) ?_
      refine cnd (fun h => ?_) (fun h => ?_)
      · have h : x % p = 0 := by have h' := eq_of_beq h; omega
        rw [if_pos h] at hR
        have hx' : x / p < 60 ^ 96 := Nat.lt_of_le_of_lt (Nat.div_le_self _ _) hx
        clear h w1 q1 hx
        refine gPASW (aI @h2 <|aI @h5 <|aI @h6 <|aI @h33 <|aI @h34 <|aI @h36 <|aI @h37 <|aI @r2 <|aI @r5 <|aI @ho <|@w2) ?_
        refine ⟨(j + 1, x / p, d), ⟨hd, ?_, ?_, ?_, ?_, ?_, ?_, ?_, ?_, ?_, ?_, by show j + 1 ≤ 4; omega, hx', hdd, hR⟩, by show 4 - (j + 1) < 4 - j; omega⟩
        all_goals (try refine fW (aI @h2 <|aI @h5 <|aI @h6 <|aI @h33 <|aI @h34 <|aI @h36 <|aI @h37 <|aI @r2 <|aI @r5 <|@ho) ?_);all_goals try exact True.intro
      · have h : ¬ x % p = 0 := by have h' := ne_of_beq_false h; omega
        rw [if_neg h] at hR
        clear h q1
        refine gPASW (aI @h2 <|aI @h5 <|aI @h6 <|aI @h33 <|aI @h34 <|aI @h36 <|aI @h37 <|aI @r2 <|aI @r5 <|aI @ho <|@w1) ?_
        refine cnd (fun h => ?_) (fun h => ?_)
        · have h : 1048576 < d * p := by have h' := of_decide_eq_true h; omega
          rw [if_pos h] at hR
          subst hR
          clear h w1
          refine gPASW (aI @h2 <|aI @h5 <|aI @h6 <|aI @h33 <|aI @h34 <|aI @h36 <|aI @h37 <|aI @r2 <|aI @r5 <|@ho) ?_
          refine rPASW hd (aI @Tryd.results61 <|aI @h2 <|aI @h5 <|aI @h6 <|aI @h33 <|aI @h34 <|aI @h36 <|aI @h37 <|aI @r2 <|aI @r5 <|@ho) ?_
          try exact True.intro
          rfl
        · have h : ¬ 1048576 < d * p := by have h' := of_decide_eq_false h; omega
          rw [if_neg h] at hR
          refine gPASW (aI @h2 <|aI @h5 <|aI @h6 <|aI @h33 <|aI @h34 <|aI @h36 <|aI @h37 <|aI @r2 <|aI @r5 <|aI @ho <|aI @w1 <|@w2) ?_
          refine ⟨(j + 1, x, d * p), ⟨hd, ?_, ?_, ?_, ?_, ?_, ?_, ?_, ?_, ?_, ?_, by show j + 1 ≤ 4; omega, hx, by show d * p ≤ 1048576; omega, hR⟩, by show 4 - (j + 1) < 4 - j; omega⟩
          all_goals (try refine fW (aI @h2 <|aI @h5 <|aI @h6 <|aI @h33 <|aI @h34 <|aI @h36 <|aI @h37 <|aI @r2 <|aI @r5 <|@ho) ?_);all_goals try exact True.intro
    · have hj4 : j = 4 := by have := of_decide_eq_false h; omega
      subst hj4
      clear h
      have w2 : V.int .i64 (wr .i64 ((k : Int) + 1)) = vn (k + 1) := by rw [wr_i64 (by omega) (by omega)]; rfl
      refine gP (aI @h34 <|@w2) ?_
      refine ⟨(k + 1, x, d), ⟨hd, ?_, ?_, ?_, ?_, ?_, ?_, ?_, ?_, by show k + 1 ≤ u; omega, hx, hdd, hR⟩, by show u - (k + 1) < u - k; omega⟩
      all_goals (try refine f0 (aI @h2 <|aI @h5 <|aI @h6 <|aI @h33 <|aI @h34 <|aI @r2 <|aI @r5 <|@ho) ?_);all_goals try exact True.intro
  · have hku : k = u := by have := of_decide_eq_false h; omega
    subst hku
    clear h
    rw [Nat.sub_self, ratK, ratE] at hR
    have q1 := P105w x hx
    by_cases c : x ≤ 1099511627776
    · rw [if_pos c] at hR q1
      subst hR
      clear c hx
      refine gPASW (aI @h2 <|aI @h5 <|aI @h6 <|aI @r2 <|aI @r5 <|aI @ho <|aI @co105 <|aI @sr105 <|@q1.iffx) ?_
      refine cnd (fun h => ?_) (fun h => ?_)
      · simp at h
      refine gPASW (aI @h2 <|aI @h5 <|aI @h6 <|aI @r2 <|aI @r5 <|@ho) ?_
      refine rPASW hd (aI @Tryd.results61 <|aI @h2 <|aI @h5 <|aI @h6 <|aI @r2 <|aI @r5 <|@ho) ?_
      try exact True.intro
    · rw [if_neg c] at hR q1
      subst hR
      clear c hx
      refine gPASW (aI @h2 <|aI @h5 <|aI @h6 <|aI @r2 <|aI @r5 <|aI @ho <|aI @co105 <|aI @sr105 <|@q1.iffx) ?_
      refine cnd (fun h => ?_) (fun h => ?_)
      · refine gPASW (aI @h2 <|aI @h5 <|aI @h6 <|aI @r2 <|aI @r5 <|@ho) ?_
        refine rPASW hd (aI @Tryd.results61 <|aI @h2 <|aI @h5 <|aI @h6 <|aI @r2 <|aI @r5 <|@ho) ?_
        try exact True.intro
        rfl
      · simp at h
end Go.Proofs.YtpocekfifokndaaDoor
namespace Go.Proofs.YtpocekfifokndaaDoor
open Go Go.Ev Go.Pl
set_option maxRecDepth 100000
set_option maxHeartbeats 4000000
def cmpN (N M : Nat) : Int := if N < M then -1 else if M < N then 1 else 0
theorem canL_len_lt {N M : Nat} (h : (canL N).length < (canL M).length) : N < M := by
  rcases Nat.lt_or_ge N M with h' | h'
  · exact h'
  · have h1 : N < 60 ^ (canL N).length := canL_length_le.1 (Nat.le_refl _)
    have := canL_length_le.2 (Nat.lt_of_le_of_lt h' h1)
    omega
theorem div_lt_lt {N M k : Nat} (h : N / 60 ^ k < M / 60 ^ k) : N < M := by
  rcases Nat.lt_or_ge N M with h' | h'
  · exact h'
  · have := Nat.div_le_div_right (c := 60 ^ k) h'
    omega
theorem P97 (N M : Nat) (hl : (canL N).length < 1000) (hl2 : (canL M).length < 1000) : Ans X 97 [.sl (nats (canL N)), .sl (nats (canL M))] (.ret (vi (cmpN N M))) := by
  refine call_of_X (fn := Tryd.f97) 2 Tryd.func97 rfl (by decide +kernel) rfl ?_ ?_ ?_ ?_
  · rfl
  · exact fun _ => rfl
  · intro v hv; injection hv with hv; subst hv; rfl
  intro s hs hd ho
  have hm : s.m = ⟨.nil, []⟩ := by subst hs; rfl
  have h0 : s.t.get 0 = .sl (nats (canL N)) := by subst hs; rfl
  have h1 : s.t.get 1 = .sl (nats (canL M)) := by subst hs; rfl
  clear hs
  refine gP (aI @h0 <|aI @h1 <|aI @hm <|@nats_length) ?_
  refine cnd (fun h => ?_) (fun h => ?_)
  · have h : (canL N).length ≠ (canL M).length := fun e => by rw [e] at h; simp at h
    refine gP (aI @h0 <|aI @h1 <|aI @hm <|@nats_length) ?_
    refine cnd (fun h => ?_) (fun h => ?_)
    · have h' := of_decide_eq_true h
      have hlt : N < M := canL_len_lt (by omega)
      refine gP @Nat.zero_add ?_
      refine rP hd @Tryd.results97 ?_
      try exact True.intro
      rw [cmpN, if_pos hlt]
    · have h' := of_decide_eq_false h
      have hlt : M < N := canL_len_lt (by omega)
      refine gP @Nat.zero_add ?_
      refine rP hd @Tryd.results97 ?_
      try exact True.intro
      rw [cmpN, if_neg (by omega), if_pos hlt]
  have hlen : (canL M).length = (canL N).length := by
    have h' : ((canL N).length : Int) = (canL M).length := by simpa using h
    omega
  clear h
  have hget : ∀ i, i < (canL N).length → (canL N)[i]? = some (dig N i) ∧ (canL M)[i]? = some (dig M i) := fun i hi => by
    constructor
    · conv => lhs; rw [canL_tab]
      exact tab_get? hi
    · conv => lhs; rw [canL_tab]
      exact tab_get? (by omega)
  have hN : N < 60 ^ (canL N).length := canL_length_le.1 (Nat.le_refl _)
  have hM : M < 60 ^ (canL N).length := by rw [← hlen]; exact canL_length_le.1 (Nat.le_refl _)
  generalize canL N = L at *
  generalize canL M = L' at *
  generalize hn : L.length = n at *
  have e0 : V.int .i64 (wr .i64 ((n : Int) - 1)) = vi ((n : Int) - 1) := by rw [wr_i64 (by omega) (by omega)]
  refine gP (aI @h0 <|aI @h1 <|aI @hm <|aI @nats_length <|aI @hn <|@e0) ?_
  refine W_loopg (fun (k : Nat) s => s.dfs = [] ∧ s.m.out.length = 0 ∧ s.t.get 0 = .sl (nats L) ∧ s.t.get 1 = .sl (nats L') ∧ s.t.get 5 = vi ((k : Int) - 1) ∧ k ≤ n ∧ N / 60 ^ k = M / 60 ^ k) (fun k => k) n ?_ ?_
  · refine ⟨hd, ?_, ?_, ?_, ?_, Nat.le_refl _, by rw [Nat.div_eq_of_lt hN, Nat.div_eq_of_lt hM]⟩
    all_goals (try refine f0 (aI @h0 <|aI @h1 <|@hm) ?_);all_goals try exact True.intro
    all_goals rfl
  clear hd h0 h1 ho hm
  rintro k s ⟨hd, ho, h0, h1, h5, hk, hq⟩
  refine gP @h5 ?_
  refine cnd (fun h => ?_) (fun h => ?_)
  · have hk0 : 0 < k := by have := of_decide_eq_true h; omega
    obtain ⟨i, rfl⟩ : ∃ i, k = i + 1 := ⟨k - 1, by omega⟩
    clear h
    have h5' : s.t.get 5 = vn i := by rw [h5]; congr 1; omega
    clear h5
    obtain ⟨g1, g2⟩ := hget i (by omega)
    have hin : (i : Int) < (n : Int) := by omega
    have hi0 : (0 : Int) ≤ (i : Int) := by omega
    have d1 := div_succ N i
    have d2 := div_succ M i
    have e4 : V.int .i64 (wr .i64 ((i : Int) - 1)) = vi ((i : Int) - 1) := by rw [wr_i64 (by omega) (by omega)]
    generalize dig N i = x at *
    generalize dig M i = y at *
    refine gPS (aI @nats_get? <|aI @nats_length <|aI @h0 <|aI @h1 <|aI @h5' <|aI @ho <|aI @g1 <|aI @g2 <|aI @hn <|aI @hlen <|aI @hin <|@hi0) ?_
    refine cnd (fun h => ?_) (fun h => ?_)
    · have h' := of_decide_eq_true h
      have hlt : N < M := div_lt_lt (k := i) (by omega)
      refine gP @Nat.zero_add ?_
      refine rP hd @Tryd.results97 ?_
      try exact True.intro
      rw [cmpN, if_pos hlt]
    have hxy := of_decide_eq_false h
    refine gPS (aI @nats_get? <|aI @nats_length <|aI @h0 <|aI @h1 <|aI @h5' <|aI @ho <|aI @g1 <|aI @g2 <|aI @hn <|aI @hlen <|aI @hin <|@hi0) ?_
    refine cnd (fun h => ?_) (fun h => ?_)
    · have h' := of_decide_eq_true h
      have hlt : M < N := div_lt_lt (k := i) (by omega)
      refine gP @Nat.zero_add ?_
      refine rP hd @Tryd.results97 ?_
      try exact True.intro
      rw [cmpN, if_neg (by omega), if_pos hlt]
    have hyx := of_decide_eq_false h
    refine gP (aI @h5' <|@e4) ?_
    refine ⟨i, ⟨hd, ?_, ?_, ?_, ?_, by omega, by omega⟩, by omega⟩
    all_goals (try refine f0 (aI @h0 <|aI @h1 <|@ho) ?_);all_goals try exact True.intro
  · have hk0 : k = 0 := by have := of_decide_eq_false h; omega
    subst hk0
    rw [Nat.pow_zero, Nat.div_one, Nat.div_one] at hq
    refine gP @Nat.zero_add ?_
    refine rP hd @Tryd.results97 ?_
    try exact True.intro
    rw [cmpN, if_neg (by omega), if_neg (by omega)]
end Go.Proofs.YtpocekfifokndaaDoor
