/- Part 7 of the proof: an evaluator of the program, proved sound against the model, and what the functions of the program compute. No condition but those each theorem states. -/
import Derived.Test.YtpocekfifokndaaDoorG2
import Derived.Test.YtpocekfifokndaaDoorG3
set_option linter.unusedSimpArgs false
set_option linter.unusedVariables false
namespace Go.Proofs.YtpocekfifokndaaDoor
open Go Go.Ev Go.Pl
set_option maxRecDepth 100000
set_option maxHeartbeats 4000000
theorem D137n (own oM : Go.Ev.Rows) : ∃ k, evD X k 137 [.ptr ⟨1, 4, 0, 1⟩ 0 0, .ptr ⟨1, 5, 0, 1⟩ 0 0] [own, oM] none = some [own, oM] := by
  refine evD_of (X := X) (fn := Tryd.f137) Tryd.func137 rfl rfl ⟨by decide +kernel, Nat.le_of_ble_eq_true rfl, rfl, co137⟩ rfl ?_
  have hm : (enter [V.ptr ⟨1, 4, 0, 1⟩ 0 0, V.ptr ⟨1, 5, 0, 1⟩ 0 0] [own, oM]).m = ⟨.nil, [own, oM]⟩ := rfl
  have hd : (enter [V.ptr ⟨1, 4, 0, 1⟩ 0 0, V.ptr ⟨1, 5, 0, 1⟩ 0 0] [own, oM]).dfs = [] := rfl
  generalize enter [V.ptr ⟨1, 4, 0, 1⟩ 0 0, V.ptr ⟨1, 5, 0, 1⟩ 0 0] [own, oM] = s at *
  refine WL_k ?_
  intro K hK
  simp (maxSteps := 2000000) (disch := omega) only [SA, ofValue, ofCell, bin, intBin, un, idx, Go.Ev.builtin, calleeOf, V.isNilS, V.depthOk, depth1, V.ok1, V.isAgg, V.cells, isConst, Nat.reduceBEq, Nat.reduceEqDiff, ↓reduceIte, Nat.reduceLeDiff, Nat.reduceAdd, Nat.reduceMul, Nat.reduceSub, Nat.reduceLT, Int.reduceAdd, Int.reduceSub, Int.reduceMul, Int.reduceLT, Int.reduceLE, Int.reduceToNat, Int.reduceNeg, reduceIte, reduceCtorEq, SPx, hm]
  refine hK _ _ ⟨rfl, ?_⟩
  clear hK K
  repeat (first
    | with_reducible first | refine W_seq ?_ | refine W_skip ?_ | refine W_label ?_ | refine W_ret ?_ | refine W_exit ?_ | refine W_block ?_ | refine thenI ?_ | refine thenRet ?_ | refine thenExit ?_ | refine blockRet ?_ | refine blockI ?_ | refine blockExit ?_ | refine blockExitNe rfl ?_
    | (with_reducible refine W_region_k ?_
       intro K hK
       simp (maxSteps := 2000000) (disch := omega) only [SA, ofValue, ofCell, bin, intBin, un, idx, Go.Ev.builtin, calleeOf, V.isNilS, V.depthOk, depth1, V.ok1, V.isAgg, V.cells, isConst, Nat.reduceBEq, Nat.reduceEqDiff, ↓reduceIte, Nat.reduceLeDiff, Nat.reduceAdd, Nat.reduceMul, Nat.reduceSub, Nat.reduceLT, Int.reduceAdd, Int.reduceSub, Int.reduceMul, Int.reduceLT, Int.reduceLE, Int.reduceToNat, Int.reduceNeg, reduceIte, reduceCtorEq, SPx, bin, eqOk, eqT, isConst, Bool.or_true, Option.map_some]
       refine hK _ _ ?_
       clear hK K)
  )
  refine cnd (fun h => ?_) (fun h => ?_)
  · simp at h
  · refine gP @Nat.zero_add ?_
    exact ⟨.inl rfl, by simp [hd], rfl⟩
theorem D137p (own oM : Go.Ev.Rows) (k : Int) (x4 x5 : V) (h4 : (⟨own, [oM]⟩ : Mem).row ⟨1, 4, 0, 1⟩ = some ⟨1, 45, false, false, [x4]⟩) (h5 : (⟨own, [oM]⟩ : Mem).row ⟨1, 5, 0, 1⟩ = some ⟨1, 23, false, false, [x5]⟩) :
    ∃ j, evD X j 137 [.ptr ⟨1, 4, 0, 1⟩ 0 0, .ptr ⟨1, 5, 0, 1⟩ 0 0] [own, oM] (some (.ifc 23 (vi k))) =
      some [((own.upd 4 500 ⟨(own.get 4 500).g + 1, 0, true, false, []⟩).upd 4 0 ⟨1, 45, false, false, [.rs ⟨1, 4, 500, (own.get 4 500).g + 1⟩ 0 0 0]⟩).upd 5 0 ⟨1, 23, false, false, [vi k]⟩, oM] := by
  refine evD_of (X := X) (fn := Tryd.f137) Tryd.func137 rfl rfl ⟨by decide +kernel, Nat.le_of_ble_eq_true rfl, rfl, co137⟩ rfl ?_
  have hm : (enter [V.ptr ⟨1, 4, 0, 1⟩ 0 0, V.ptr ⟨1, 5, 0, 1⟩ 0 0] [own, oM]).m = ⟨.nil, [own, oM]⟩ := rfl
  have hd : (enter [V.ptr ⟨1, 4, 0, 1⟩ 0 0, V.ptr ⟨1, 5, 0, 1⟩ 0 0] [own, oM]).dfs = [] := rfl
  have t0 : (enter [V.ptr ⟨1, 4, 0, 1⟩ 0 0, V.ptr ⟨1, 5, 0, 1⟩ 0 0] [own, oM]).t.get 0 = .ptr ⟨1, 4, 0, 1⟩ 0 0 := rfl
  have t1 : (enter [V.ptr ⟨1, 4, 0, 1⟩ 0 0, V.ptr ⟨1, 5, 0, 1⟩ 0 0] [own, oM]).t.get 1 = .ptr ⟨1, 5, 0, 1⟩ 0 0 := rfl
  generalize enter [V.ptr ⟨1, 4, 0, 1⟩ 0 0, V.ptr ⟨1, 5, 0, 1⟩ 0 0] [own, oM] = s at *
  have h4' : (⟨.nil, [own, oM]⟩ : Mem).row ⟨1, 4, 0, 1⟩ = some ⟨1, 45, false, false, [x4]⟩ := by rw [row_outer _ _ _ _ (by simp), h4]
  have h5' : (⟨.nil, [own, oM]⟩ : Mem).row ⟨1, 5, 0, 1⟩ = some ⟨1, 23, false, false, [x5]⟩ := by rw [row_outer _ _ _ _ (by simp), h5]
  refine WL_k ?_
  intro K hK
  simp (maxSteps := 2000000) (disch := omega) only [SA, ofValue, ofCell, bin, intBin, un, idx, Go.Ev.builtin, calleeOf, V.isNilS, V.depthOk, depth1, V.ok1, V.isAgg, V.cells, isConst, Nat.reduceBEq, Nat.reduceEqDiff, ↓reduceIte, Nat.reduceLeDiff, Nat.reduceAdd, Nat.reduceMul, Nat.reduceSub, Nat.reduceLT, Int.reduceAdd, Int.reduceSub, Int.reduceMul, Int.reduceLT, Int.reduceLE, Int.reduceToNat, Int.reduceNeg, reduceIte, reduceCtorEq, SPx, hm]
  refine hK _ _ ⟨rfl, ?_⟩
  clear hK K
  repeat (first
    | with_reducible first | refine W_seq ?_ | refine W_skip ?_ | refine W_label ?_ | refine W_ret ?_ | refine W_exit ?_ | refine W_block ?_ | refine thenI ?_ | refine thenRet ?_ | refine thenExit ?_ | refine blockRet ?_ | refine blockI ?_ | refine blockExit ?_ | refine blockExitNe rfl ?_
    | (with_reducible refine W_region_k ?_
       intro K hK
       simp (maxSteps := 2000000) (disch := omega) only [SA, ofValue, ofCell, bin, intBin, un, idx, Go.Ev.builtin, calleeOf, V.isNilS, V.depthOk, depth1, V.ok1, V.isAgg, V.cells, isConst, Nat.reduceBEq, Nat.reduceEqDiff, ↓reduceIte, Nat.reduceLeDiff, Nat.reduceAdd, Nat.reduceMul, Nat.reduceSub, Nat.reduceLT, Int.reduceAdd, Int.reduceSub, Int.reduceMul, Int.reduceLT, Int.reduceLE, Int.reduceToNat, Int.reduceNeg, reduceIte, reduceCtorEq, SPx, bin, eqOk, eqT, isConst, Bool.or_true, Option.map_some]
       refine hK _ _ ?_
       clear hK K)
  )
  refine cnd (fun h => ?_) (fun h => ?_)
  · refine gPAS (aI @t0 <|aI @t1 <|aI @h4' <|aI @h5' <|aI @co133 <|aI @sr133 <|aI ((P133 k).iffx) <|aI @Mem.rows_new <|@Mem.rows_lit) ?_
    refine ⟨.inl rfl, by simp [hd], ?_⟩
    simp [Mem.new, Mem.set, outSet]
  · simp at h
theorem fin99 {oM : Go.Ev.Rows} {s : St} {es : List V} {k : Int} (hd : s.dfs = [(137, [.ptr ⟨1, 4, 0, 1⟩ 0 0, .ptr ⟨1, 5, 0, 1⟩ 0 0])]) (ho : s.m.out = [oM]) (h4 : s.t.get 4 = .ptr ⟨1, 4, 0, 1⟩ 0 0) (h5 : s.t.get 5 = .ptr ⟨1, 5, 0, 1⟩ 0 0)
    (r4 : s.m.row ⟨1, 4, 0, 1⟩ = some ⟨1, 45, false, false, [.sl es]⟩) (r5 : s.m.row ⟨1, 5, 0, 1⟩ = some ⟨1, 23, false, false, [vi k]⟩) :
    finQ X Tryd.f99 (.ret (.tup [.sl es, vi k]), [oM]) .ret s := by
  obtain ⟨t, ⟨own, out⟩, dfs⟩ := s
  dsimp only at hd ho h4 h5 r4 r5
  subst ho
  refine fin_ret1 (own := own) (vs := [.sl es, vi k]) hd (D137n own oM) ?_ rfl rfl
  simp (maxSteps := 2000000) (disch := omega) only [SA, ofValue, ofCell, bin, intBin, un, idx, Go.Ev.builtin, calleeOf, V.isNilS, V.depthOk, depth1, V.ok1, V.isAgg, V.cells, isConst, Nat.reduceBEq, Nat.reduceEqDiff, ↓reduceIte, Nat.reduceLeDiff, Nat.reduceAdd, Nat.reduceMul, Nat.reduceSub, Nat.reduceLT, Int.reduceAdd, Int.reduceSub, Int.reduceMul, Int.reduceLT, Int.reduceLE, Int.reduceToNat, Int.reduceNeg, reduceIte, reduceCtorEq, SPx, Tryd.results99, resVars, resVar, h4, h5, r4, r5]
theorem fin99p {oM : Go.Ev.Rows} {s : St} {x4 x5 : V} {k : Int} (hd : s.dfs = [(137, [.ptr ⟨1, 4, 0, 1⟩ 0 0, .ptr ⟨1, 5, 0, 1⟩ 0 0])]) (ho : s.m.out = [oM]) (h4 : s.t.get 4 = .ptr ⟨1, 4, 0, 1⟩ 0 0) (h5 : s.t.get 5 = .ptr ⟨1, 5, 0, 1⟩ 0 0)
    (r4 : s.m.row ⟨1, 4, 0, 1⟩ = some ⟨1, 45, false, false, [x4]⟩) (r5 : s.m.row ⟨1, 5, 0, 1⟩ = some ⟨1, 23, false, false, [x5]⟩) :
    finQ X Tryd.f99 (.ret (.tup [.sl [], vi k]), [oM]) (.panic (.ifc 23 (vi k))) s := by
  obtain ⟨t, ⟨own, out⟩, dfs⟩ := s
  dsimp only at hd ho h4 h5 r4 r5
  subst ho
  refine fin_panic1 (vs := [.rs ⟨1, 4, 500, (own.get 4 500).g + 1⟩ 0 0 0, vi k]) hd (D137p own oM k x4 x5 r4 r5) ?_ ?_ ?_
  · rw [← set_own _ [oM] 1 5 0 _ rfl, ← set_own _ [oM] 1 4 0 _ rfl, ← set_own _ [oM] 1 4 500 _ rfl]
    simp (maxSteps := 2000000) (disch := omega) only [SA, ofValue, ofCell, bin, intBin, un, idx, Go.Ev.builtin, calleeOf, V.isNilS, V.depthOk, depth1, V.ok1, V.isAgg, V.cells, isConst, Nat.reduceBEq, Nat.reduceEqDiff, ↓reduceIte, Nat.reduceLeDiff, Nat.reduceAdd, Nat.reduceMul, Nat.reduceSub, Nat.reduceLT, Int.reduceAdd, Int.reduceSub, Int.reduceMul, Int.reduceLT, Int.reduceLE, Int.reduceToNat, Int.reduceNeg, reduceIte, reduceCtorEq, SPx, Tryd.results99, resVars, resVar, h4, h5, r4, r5]
  · rw [← set_own _ [oM] 1 5 0 _ rfl, ← set_own _ [oM] 1 4 0 _ rfl, ← set_own _ [oM] 1 4 500 _ rfl]
    simp (maxSteps := 2000000) (disch := omega) only [SA, ofValue, ofCell, bin, intBin, un, idx, Go.Ev.builtin, calleeOf, V.isNilS, V.depthOk, depth1, V.ok1, V.isAgg, V.cells, isConst, Nat.reduceBEq, Nat.reduceEqDiff, ↓reduceIte, Nat.reduceLeDiff, Nat.reduceAdd, Nat.reduceMul, Nat.reduceSub, Nat.reduceLT, Int.reduceAdd, Int.reduceSub, Int.reduceMul, Int.reduceLT, Int.reduceLE, Int.reduceToNat, Int.reduceNeg, reduceIte, reduceCtorEq, SPx, SAx, resOf, X_own, mv_tup, mv2s_cons, mv2s_nil, mv2_int, cut, List.take_zero, List.drop_zero]
  · exact frzR_own (fun r ty off len hm => by
      simp [resOf, leaves, leaves2] at hm
      rw [hm.1]; rfl)
theorem M99 (g : FuncId) (cap : List V) (oM : Go.Ev.Rows) (r : Res) (hcap : cap.any V.loose = true) (hco : callOk Tryd.prog g = true) (hsr : scalarRes Tryd.prog g = false) (hg : ∀ own, AnsAt X g cap [own, oM] r)
    (R : Res) (hR : (∃ es, r = .ret (.sl es) ∧ R = .ret (.tup [.sl es, vi 0])) ∨ (∃ k, r = .panic (.ifc 23 (vi k)) ∧ R = .ret (.tup [.sl [], vi k]))) :
    AnsAt X 99 [vi 0, .fn g [] cap] [oM] R := by
  have hne : cap.isEmpty = false := by cases cap with | nil => simp at hcap | cons _ _ => rfl
  refine ⟨rfl, by simp [V.refs, V.loose, hne], fun v hv => ?_, ?_⟩
  · rcases hR with ⟨es, _, rfl⟩ | ⟨k, _, rfl⟩
    · injection hv with hv; subst hv; rfl
    · injection hv with hv; subst hv; rfl
  refine runsAt_of (X := X) (fn := Tryd.f99) Tryd.func99 rfl ⟨by decide +kernel, Nat.le_of_ble_eq_true rfl⟩ ?_
  have hd : (enter [vi 0, V.fn g [] cap] [oM]).dfs = [] := rfl
  have h0 : (enter [vi 0, V.fn g [] cap] [oM]).t.get 0 = vi 0 := rfl
  have h1 : (enter [vi 0, V.fn g [] cap] [oM]).t.get 1 = .fn g [] cap := rfl
  have hm : (enter [vi 0, V.fn g [] cap] [oM]).m = ⟨.nil, [oM]⟩ := rfl
  generalize enter [vi 0, V.fn g [] cap] [oM] = s at *
  refine gPA (aI @h0 <|aI @h1 <|@hm) ?_
  refine cnd (fun h => ?_) (fun h => ?_)
  · simp at h
  refine gPA (aI @h0 <|aI @h1 <|@hm) ?_
  have key : ∀ (m : Mem) (dst : Nat) (K KP : V → Mem → Prop), m.out = [oM] → CallQ X g cap m dst K KP = (match r with | .ret v => K v m | .panic v => KP v m) := by
    intro m dst K KP hmo
    have hh := hg m.own
    rw [← hmo] at hh
    cases r with
    | ret v => exact propext hh.iff
    | panic v => exact propext hh.panics
  with_reducible refine W_region_k ?_
  intro K hK
  simp (maxSteps := 2000000) (disch := omega) only [SA, ofValue, ofCell, bin, intBin, un, idx, Go.Ev.builtin, calleeOf, V.isNilS, V.depthOk, depth1, V.ok1, V.isAgg, V.cells, isConst, Nat.reduceBEq, Nat.reduceEqDiff, ↓reduceIte, Nat.reduceLeDiff, Nat.reduceAdd, Nat.reduceMul, Nat.reduceSub, Nat.reduceLT, Int.reduceAdd, Int.reduceSub, Int.reduceMul, Int.reduceLT, Int.reduceLE, Int.reduceToNat, Int.reduceNeg, reduceIte, reduceCtorEq, SPx, SAx, h0, h1, hm, hd, hco, hsr]
  rw [key _ _ _ _ rfl]
  rcases hR with ⟨es, rfl, rfl⟩ | ⟨k, rfl, rfl⟩
  · simp (maxSteps := 2000000) (disch := omega) only [SA, ofValue, ofCell, bin, intBin, un, idx, Go.Ev.builtin, calleeOf, V.isNilS, V.depthOk, depth1, V.ok1, V.isAgg, V.cells, isConst, Nat.reduceBEq, Nat.reduceEqDiff, ↓reduceIte, Nat.reduceLeDiff, Nat.reduceAdd, Nat.reduceMul, Nat.reduceSub, Nat.reduceLT, Int.reduceAdd, Int.reduceSub, Int.reduceMul, Int.reduceLT, Int.reduceLE, Int.reduceToNat, Int.reduceNeg, reduceIte, reduceCtorEq, SPx, SAx, SSx, appendTo, elemsOf]
    refine hK _ _ ?_
    clear hK K
    refine gP @Nat.zero_add ?_
    refine fin99 (es := es) (k := 0) ?_ ?_ ?_ ?_ ?_ ?_
    all_goals (try refine f0 @hd ?_);all_goals try exact True.intro
    all_goals first | rfl | simp [Mem.new, Mem.set]
  · simp (maxSteps := 2000000) (disch := omega) only [SA, ofValue, ofCell, bin, intBin, un, idx, Go.Ev.builtin, calleeOf, V.isNilS, V.depthOk, depth1, V.ok1, V.isAgg, V.cells, isConst, Nat.reduceBEq, Nat.reduceEqDiff, ↓reduceIte, Nat.reduceLeDiff, Nat.reduceAdd, Nat.reduceMul, Nat.reduceSub, Nat.reduceLT, Int.reduceAdd, Int.reduceSub, Int.reduceMul, Int.reduceLT, Int.reduceLE, Int.reduceToNat, Int.reduceNeg, reduceIte, reduceCtorEq, SPx, SAx, SSx, appendTo, elemsOf]
    refine hK _ _ ?_
    clear hK K
    refine gP @Nat.zero_add ?_
    refine fin99p (k := k) (x4 := .rs ⟨1, 4, 1, 1⟩ 0 0 0) (x5 := vi 0) ?_ ?_ ?_ ?_ ?_ ?_
    all_goals (try refine f0 @hd ?_);all_goals try exact True.intro
    all_goals first | rfl | simp [Mem.new, Mem.set]
theorem M99e (e : Int) (he : e ≠ 0) (g : FuncId) (cap : List V) (oM : Go.Ev.Rows) (hcap : cap.any V.loose = true) : AnsAt X 99 [vi e, .fn g [] cap] [oM] (.ret (.tup [.sl [], vi e])) := by
  have hne : cap.isEmpty = false := by cases cap with | nil => simp at hcap | cons _ _ => rfl
  refine ⟨rfl, by simp [V.refs, V.loose, hne], fun v hv => ?_, ?_⟩
  · injection hv with hv; subst hv; rfl
  refine runsAt_of (X := X) (fn := Tryd.f99) Tryd.func99 rfl ⟨by decide +kernel, Nat.le_of_ble_eq_true rfl⟩ ?_
  have hd : (enter [vi e, V.fn g [] cap] [oM]).dfs = [] := rfl
  have h0 : (enter [vi e, V.fn g [] cap] [oM]).t.get 0 = vi e := rfl
  have h1 : (enter [vi e, V.fn g [] cap] [oM]).t.get 1 = .fn g [] cap := rfl
  have hm : (enter [vi e, V.fn g [] cap] [oM]).m = ⟨.nil, [oM]⟩ := rfl
  generalize enter [vi e, V.fn g [] cap] [oM] = s at *
  refine gPA (aI @h0 <|aI @h1 <|@hm) ?_
  refine cnd (fun h => ?_) (fun h => ?_)
  · refine gPA (aI @h0 <|aI @h1 <|@hm) ?_
    refine fin_ret (X := X) (fn := Tryd.f99) (vs := [.rs ⟨1, 4, 1, 1⟩ 0 0 0, vi e]) hd ?_ ?_ ?_
    · simp (maxSteps := 2000000) (disch := omega) only [SA, ofValue, ofCell, bin, intBin, un, idx, Go.Ev.builtin, calleeOf, V.isNilS, V.depthOk, depth1, V.ok1, V.isAgg, V.cells, isConst, Nat.reduceBEq, Nat.reduceEqDiff, ↓reduceIte, Nat.reduceLeDiff, Nat.reduceAdd, Nat.reduceMul, Nat.reduceSub, Nat.reduceLT, Int.reduceAdd, Int.reduceSub, Int.reduceMul, Int.reduceLT, Int.reduceLE, Int.reduceToNat, Int.reduceNeg, reduceIte, reduceCtorEq, SPx, SAx, Tryd.results99, resVars, resVar]
    · simp (maxSteps := 2000000) (disch := omega) only [SA, ofValue, ofCell, bin, intBin, un, idx, Go.Ev.builtin, calleeOf, V.isNilS, V.depthOk, depth1, V.ok1, V.isAgg, V.cells, isConst, Nat.reduceBEq, Nat.reduceEqDiff, ↓reduceIte, Nat.reduceLeDiff, Nat.reduceAdd, Nat.reduceMul, Nat.reduceSub, Nat.reduceLT, Int.reduceAdd, Int.reduceSub, Int.reduceMul, Int.reduceLT, Int.reduceLE, Int.reduceToNat, Int.reduceNeg, reduceIte, reduceCtorEq, SPx, SAx, resOf, X_own, mv_tup, mv2s_cons, mv2s_nil, mv2_int, cut, List.take_zero, List.drop_zero]
    · refine (frzR_own (fun r ty off len hm => ?_)).trans ?_
      · simp [resOf, leaves, leaves2] at hm
        rw [hm.1]; rfl
      · rfl
  · exact absurd (by simpa using h) he
end Go.Proofs.YtpocekfifokndaaDoor
namespace Go.Proofs.YtpocekfifokndaaDoor
open Go Go.Ev Go.Pl
set_option maxRecDepth 100000
set_option maxHeartbeats 4000000
def HeldD (m : Mem) (d s i : Nat) (T : TypeId) (v : V) (L : List V) : Prop := ∃ g ty, v = .rs ⟨d, s, i, g⟩ ty 0 L.length ∧ m.row ⟨d, s, i, g⟩ = some ⟨g, ty, true, false, L⟩ ∧ (ty = T ∨ ty = 0 ∧ L.length = 0)
def stepL (w f : Nat) : List Nat :=
  if h : 1 < f ∧ 0 < w then
    if hw : (regS (zi (digB f))).2.2.2 = 0 ∧ w % f = 0 then f :: stepL (w / f) f else stepL w (f - 1)
  else []
termination_by w + f
decreasing_by
  · have := Nat.div_lt_self h.2 h.1; omega
  · omega
theorem stepL_yes {w f : Nat} (hf : 1 < f) (hw : 0 < w) (h : (regS (zi (digB f))).2.2.2 = 0 ∧ w % f = 0) : stepL w f = f :: stepL (w / f) f := by rw [stepL, dif_pos ⟨hf, hw⟩, dif_pos h]
theorem stepL_no {w f : Nat} (hf : 1 < f) (hw : 0 < w) (h : ¬ ((regS (zi (digB f))).2.2.2 = 0 ∧ w % f = 0)) : stepL w f = stepL w (f - 1) := by rw [stepL, dif_pos ⟨hf, hw⟩, dif_neg h]
theorem stepL_end {w f : Nat} (hf : ¬ 1 < f) : stepL w f = [] := by rw [stepL, dif_neg (fun e => hf e.1)]
def pairV (f : Nat) : V := .agg [.sl (nats (digB f)), .sl (nats (recS (zi (digB f))).1)]
def pairsV (l : List Nat) : List V := l.map pairV
theorem pairsV_length (l : List Nat) : (pairsV l).length = l.length := by simp [pairsV]
theorem pairsV_snoc (l : List Nat) (f : Nat) : pairsV l ++ [.agg [.sl (nats (digB f)), .sl (nats (recS (zi (digB f))).1)]] = pairsV (l ++ [f]) := by simp [pairsV, pairV]
theorem cut_pairs (l : List Nat) : cut (pairsV l) 0 l.length = pairsV l := by unfold cut; rw [List.drop_zero, List.take_of_length_le (by rw [pairsV_length]; exact Nat.le_refl _)]
theorem P100 (l : List Nat) (hl : ∀ d ∈ l, d < 60) (hlen : l.length ≤ 16) (N : Nat) (hNe : numL l.reverse = N) (hN : 0 < N) (o1 oM : Go.Ev.Rows)
    (hA : (⟨oM, []⟩ : Mem).row ⟨0, 1, 0, 1⟩ = some ⟨1, 22, false, false, [.sl (nats l)]⟩) :
    AnsAt X 100 [.ptr ⟨0, 1, 0, 1⟩ 0 0] [o1, oM] (.ret (.sl (pairsV (stepL N 81)))) := by
  refine ⟨rfl, rfl, fun v hv => ?_, ?_⟩
  · injection hv with hv; subst hv; rfl
  refine runsAt_of (X := X) (fn := Tryd.f100) Tryd.func100 rfl ⟨by decide +kernel, Nat.le_of_ble_eq_true rfl⟩ ?_
  have hd : (enter [V.ptr ⟨0, 1, 0, 1⟩ 0 0] [o1, oM]).dfs = [] := rfl
  have h0 : (enter [V.ptr ⟨0, 1, 0, 1⟩ 0 0] [o1, oM]).t.get 0 = .ptr ⟨0, 1, 0, 1⟩ 0 0 := rfl
  have hm : (enter [V.ptr ⟨0, 1, 0, 1⟩ 0 0] [o1, oM]).m = ⟨.nil, [o1, oM]⟩ := rfl
  generalize enter [V.ptr ⟨0, 1, 0, 1⟩ 0 0] [o1, oM] = s at *
  have hA' : (⟨.nil, [o1, oM]⟩ : Mem).row ⟨0, 1, 0, 1⟩ = some ⟨1, 22, false, false, [.sl (nats l)]⟩ := by rw [row_outer _ _ _ _ (by simp), row_outer _ _ _ _ (by simp), hA]
  have hNb : N < 60 ^ 16 := by
    have := Go.Pl.num_lt (l := l.reverse) (fun d hd => hl d (List.mem_reverse.1 hd))
    rw [List.length_reverse, hNe] at this
    exact lt_pow_mono this hlen
  have q1 := P86 l 0 72 rfl hl (by omega)
  rw [hNe] at q1
  refine gPAW (aI @h0 <|aI @hm <|aI @hA' <|aI @co86 <|aI @sr86 <|@q1.iffx) ?_
  refine W_loopg (fun (x : Nat × Nat × List Nat) s => s.dfs = [] ∧ s.m.out = [o1, oM] ∧ s.t.get 3 = .ptr ⟨2, 3, 0, 1⟩ 0 0 ∧ s.t.get 4 = vn x.2.1 ∧ HeldD s.m 2 2 1 69 (s.t.get 2) (pairsV x.2.2) ∧
    s.m.row ⟨2, 3, 0, 1⟩ = some ⟨1, 100, false, false, [wv (x.1 * 60 ^ 72)]⟩ ∧ 0 < x.1 ∧ x.1 * 2 ^ x.2.2.length ≤ N ∧ x.2.1 ≤ 81 ∧ 0 < x.2.1 ∧ stepL N 81 = x.2.2 ++ stepL x.1 x.2.1) (fun x => x.1 + x.2.1) (N, 81, []) ?_ ?_
  · refine ⟨hd, ?_, ?_, ?_, ⟨1, 0, ?_, ?_, .inr ⟨rfl, rfl⟩⟩, ?_, hN, by simp, Nat.le_refl _, Nat.zero_lt_succ _, rfl⟩
    all_goals (try refine fW @hm ?_);all_goals try exact True.intro
    all_goals rfl
  clear hd h0 hm hA' q1 hA
  rintro ⟨w, f, acc⟩ s ⟨hd, ho, h3, h4, ⟨g, ty, h2, r2, hty⟩, r3, hw, hwN, hf81, hf0, hst⟩
  dsimp only at h4 h2 r2 hty r3 hw hwN hf81 hf0 hst
  rw [pairsV_length] at h2 hty
  refine gP @h4 ?_
  refine cnd (fun h => ?_) (fun h => ?_)
  · have h := of_decide_eq_true h
    have hf1 : 1 < f := by omega
    clear h
    have hwle : w ≤ N := Nat.le_trans (Nat.le_mul_of_pos_right _ (Nat.pow_pos (by decide))) hwN
    have q1 := Q101 w f (Nat.lt_of_le_of_lt hwle (Nat.lt_trans hNb (by decide))) (by omega) (by omega)
    have q2 := P88 f (by omega)
    have q3 := P81 (f * 60 ^ 72) (by
      calc f * 60 ^ 72 < 60 ^ 16 * 60 ^ 72 := Nat.mul_lt_mul_of_pos_right (by omega) (by decide)
        _ ≤ 60 ^ 168 := by decide)
    rw [placeRes_whole (by omega)] at q3
    have q4 := P31 (zi (digB f))
    rw [← nats_zi] at q4
    have hrw : (regS (zi (digB f))).2.2.2 = (regS (zi (digB f))).2.2.2 := rfl
    generalize hre : (regS (zi (digB f))).2.2.2 = e at q4 hrw
    by_cases c : e = 0 ∧ w % f = 0
    · obtain ⟨c1, c2⟩ := c
      have e1 : (e != 0) = false := by rw [c1]; rfl
      have e2 : (((w % f : Nat) : Int) != 0) = false := by rw [c2]; rfl
      have q5 := P32 (zi (digB f))
      rw [← nats_zi] at q5
      have hdiv : 0 < w / f := Nat.div_pos (Nat.le_of_dvd hw (Nat.dvd_of_mod_eq_zero c2)) (by omega)
      have hpow : w / f * 2 ^ (acc ++ [f]).length ≤ N := by
        have h1 : w / f * 2 ≤ w := Nat.le_trans (Nat.mul_le_mul_left _ hf1) (Nat.div_mul_le_self w f)
        have h2 := Nat.mul_le_mul_right (2 ^ acc.length) h1
        rw [List.length_append, List.length_singleton, Nat.pow_succ, Nat.mul_comm (2 ^ _) 2, ← Nat.mul_assoc]
        omega
      have hcnt : acc.length < 100 := by
        have h1 : 2 ^ acc.length ≤ N := Nat.le_trans (Nat.le_mul_of_pos_left _ hw) hwN
        exact Nat.lt_of_lt_of_le ((Nat.pow_lt_pow_iff_right (a := 2) (by decide)).1 (Nat.lt_of_le_of_lt h1 (Nat.lt_trans hNb (by decide : (60 : Nat) ^ 16 < 2 ^ 100)))) (Nat.le_refl _)
      rw [stepL_yes hf1 hw ⟨by rw [hre]; exact c1, c2⟩] at hst
      have hlt : w / f + f < w + f := by have := Nat.div_lt_self hw hf1; omega
      clear hre hrw hwN hwle hNb hNe hl
      refine gPASW (aI @h2 <|aI @h3 <|aI @h4 <|aI @ho <|aI @r2 <|aI @r3 <|aI @hty <|aI @co101 <|aI @sr101 <|aI @co88 <|aI @sr88 <|aI @co81 <|aI @sr81 <|aI @co31 <|aI @sr31 <|aI @co32 <|aI @sr32 <|aI @q1.iffx <|aI @q2.iffx <|aI @q3.iffx <|aI @q4.iffx <|aI @q5.iffx <|aI @e1 <|aI @e2 <|aI @pairsV_length <|aI @cut_pairs <|@pairsV_snoc) ?_
      refine cnd (fun h => ?_) (fun h => ?_)
      · simp at h
      refine gPASW (aI @h2 <|aI @h3 <|aI @h4 <|aI @ho <|aI @r2 <|aI @r3 <|aI @hty <|aI @co32 <|aI @sr32 <|aI @q5.iffx <|aI @pairsV_length <|aI @cut_pairs <|@pairsV_snoc) ?_
      refine ⟨(w / f, f, acc ++ [f]), ⟨hd, ?_, ?_, ?_, ⟨g + 1, 69, ?_, ?_, .inl rfl⟩, ?_, hdiv, hpow, hf81, hf0, ?_⟩, hlt⟩
      all_goals (try refine fSW (aI @h2 <|aI @h3 <|aI @h4 <|aI @r2 <|aI @r3 <|aI @ho <|@pairsV_length) ?_);all_goals try exact True.intro
      · simp [Mem.new, Mem.set, ho]
      · rw [hst]; simp
    · rw [stepL_no hf1 hw (by rw [hre]; exact c)] at hst
      have hlt : w + (f - 1) < w + f := by omega
      have hm1 : f - 1 ≤ 81 ∧ 0 < f - 1 := by omega
      have e4 : V.int .i64 (wr .i64 ((f : Int) - 1)) = vn (f - 1) := by rw [wr_i64 (by omega) (by omega)]; congr 1; omega
      by_cases he : e = 0
      · have e1 : (e != 0) = false := by rw [he]; rfl
        have e2 : (((w % f : Nat) : Int) != 0) = true := by
          have h2 : w % f ≠ 0 := fun x => c ⟨he, x⟩
          rw [bne_iff_ne]; omega
        clear hre hrw hwle hNb hNe hl c
        refine gPASW (aI @h2 <|aI @h3 <|aI @h4 <|aI @ho <|aI @r2 <|aI @r3 <|aI @hty <|aI @co101 <|aI @sr101 <|aI @co88 <|aI @sr88 <|aI @co81 <|aI @sr81 <|aI @co31 <|aI @sr31 <|aI @q1.iffx <|aI @q2.iffx <|aI @q3.iffx <|aI @q4.iffx <|aI @e1 <|@e2) ?_
        refine cnd (fun h => ?_) (fun h => ?_)
        · refine gPASW (aI @h2 <|aI @h3 <|aI @h4 <|aI @ho <|aI @r2 <|aI @r3 <|@e4) ?_
          refine ⟨(w, f - 1, acc), ⟨hd, ?_, ?_, ?_, ⟨g, ty, ?_, ?_, by rw [pairsV_length]; exact hty⟩, ?_, hw, hwN, hm1.1, hm1.2, hst⟩, hlt⟩
          all_goals (try refine fSW (aI @h2 <|aI @h3 <|aI @h4 <|aI @r2 <|aI @r3 <|aI @ho <|@pairsV_length) ?_);all_goals try exact True.intro
          simp [Mem.new, Mem.set, ho]
        · simp at h
      · have e1 : (e != 0) = true := by simpa using he
        clear hre hrw hwle hNb hNe hl c
        refine gPASW (aI @h2 <|aI @h3 <|aI @h4 <|aI @ho <|aI @r2 <|aI @r3 <|aI @hty <|aI @co101 <|aI @sr101 <|aI @co88 <|aI @sr88 <|aI @co81 <|aI @sr81 <|aI @co31 <|aI @sr31 <|aI @q1.iffx <|aI @q2.iffx <|aI @q3.iffx <|aI @q4.iffx <|@e1) ?_
        refine cnd (fun h => ?_) (fun h => ?_)
        · refine gPASW (aI @h2 <|aI @h3 <|aI @h4 <|aI @ho <|aI @r2 <|aI @r3 <|@e4) ?_
          refine ⟨(w, f - 1, acc), ⟨hd, ?_, ?_, ?_, ⟨g, ty, ?_, ?_, by rw [pairsV_length]; exact hty⟩, ?_, hw, hwN, hm1.1, hm1.2, hst⟩, hlt⟩
          all_goals (try refine fSW (aI @h2 <|aI @h3 <|aI @h4 <|aI @r2 <|aI @r3 <|aI @ho <|@pairsV_length) ?_);all_goals try exact True.intro
          simp [Mem.new, Mem.set, ho]
        · simp at h
  · have h := of_decide_eq_false h
    have hf1 : ¬ 1 < f := by omega
    rw [stepL_end hf1, List.append_nil] at hst
    rw [hst]
    refine gPAS (aI @h2 <|aI @r2 <|@ho) ?_
    refine fin_ret (X := X) (fn := Tryd.f100) (vs := [.rs ⟨2, 2, 1, g⟩ ty 0 acc.length]) hd ?_ ?_ ?_
    · simp (maxSteps := 2000000) (disch := omega) only [SA, ofValue, ofCell, bin, intBin, un, idx, Go.Ev.builtin, calleeOf, V.isNilS, V.depthOk, depth1, V.ok1, V.isAgg, V.cells, isConst, Nat.reduceBEq, Nat.reduceEqDiff, ↓reduceIte, Nat.reduceLeDiff, Nat.reduceAdd, Nat.reduceMul, Nat.reduceSub, Nat.reduceLT, Int.reduceAdd, Int.reduceSub, Int.reduceMul, Int.reduceLT, Int.reduceLE, Int.reduceToNat, Int.reduceNeg, reduceIte, reduceCtorEq, SPx, Tryd.results100, resVars, resVar]
    · simp (maxSteps := 2000000) (disch := omega) only [SA, ofValue, ofCell, bin, intBin, un, idx, Go.Ev.builtin, calleeOf, V.isNilS, V.depthOk, depth1, V.ok1, V.isAgg, V.cells, isConst, Nat.reduceBEq, Nat.reduceEqDiff, ↓reduceIte, Nat.reduceLeDiff, Nat.reduceAdd, Nat.reduceMul, Nat.reduceSub, Nat.reduceLT, Int.reduceAdd, Int.reduceSub, Int.reduceMul, Int.reduceLT, Int.reduceLE, Int.reduceToNat, Int.reduceNeg, reduceIte, reduceCtorEq, SPx, SAx, resOf, X_own, r2, pairsV_length, cut_pairs]
    · refine (frzR_own (fun r ty off len hm => ?_)).trans ho
      simp [resOf, leaves, leaves2] at hm
      rw [hm.1, ho]; rfl
end Go.Proofs.YtpocekfifokndaaDoor
namespace Go.Proofs.YtpocekfifokndaaDoor
open Go Go.Ev Go.Pl
set_option maxRecDepth 100000
set_option maxHeartbeats 4000000
def stepsS (a : List Int) : List Nat × Int := if (regS a).2.2.2 ≠ 0 then ([], (regS a).2.2.2) else (stepL (numI a) 81, 0)
theorem P40 (a : List Int) : Ans X 40 [.sl (ints a)] (.ret (.tup [.sl (pairsV (stepsS a).1), vi (stepsS a).2])) := by
  refine call_of_X (fn := Tryd.f40) 1 Tryd.func40 rfl (by decide +kernel) rfl ?_ ?_ ?_ ?_
  · rfl
  · intro h; exact absurd h (by rw [sr40]; decide)
  · intro v hv; injection hv with hv; subst hv; rfl
  intro s hs hd ho
  have hm : s.m = ⟨.nil, []⟩ := by subst hs; rfl
  have h0 : s.t.get 0 = .sl (ints a) := by subst hs; rfl
  clear hs
  have key : ∀ (m : Mem) (dst : Nat) (K KP : V → Mem → Prop), m.out = [] → m.row ⟨0, 1, 0, 1⟩ = some ⟨1, 22, false, false, [.sl (ints a)]⟩ →
      (CallQ X 99 [vi (regS a).2.2.2, .fn 100 [] [.ptr ⟨0, 1, 0, 1⟩ 0 0]] m dst K KP ↔ K (.tup [.sl (pairsV (stepsS a).1), vi (stepsS a).2]) m) := by
    rintro ⟨own, out⟩ dst K KP ho r1
    dsimp only at ho
    subst ho
    by_cases h : (regS a).2.2.2 = 0
    · obtain ⟨hc, hl, hN⟩ := reg_spec h
      obtain ⟨b1, b2, b3, b4, _⟩ := chk_ok hc
      rw [b1] at r1
      rw [h]
      refine AnsAt.iff (m := ⟨own, []⟩) (M99 100 _ own (.ret (.sl (pairsV (stepL (numI a) 81)))) rfl co100 sr100 (fun o1 => P100 (natsOf a) b2 (by omega) (numI a) rfl (numI_pos hc hl) o1 own r1) _ (.inl ⟨_, rfl, ?_⟩))
      rw [stepsS, if_neg (fun e => e h)]
    · refine AnsAt.iff (m := ⟨own, []⟩) ?_
      have := M99e (regS a).2.2.2 h 100 [.ptr ⟨0, 1, 0, 1⟩ 0 0] own rfl
      rw [stepsS, if_pos h]; exact this
  refine gPA (aI @h0 <|aI @hm <|aI @co31 <|aI @sr31 <|((P31 a).iffx)) ?_
  with_reducible refine W_region_k ?_
  intro K hK
  simp (maxSteps := 2000000) (disch := omega) only [SA, ofValue, ofCell, bin, intBin, un, idx, Go.Ev.builtin, calleeOf, V.isNilS, V.depthOk, depth1, V.ok1, V.isAgg, V.cells, isConst, Nat.reduceBEq, Nat.reduceEqDiff, ↓reduceIte, Nat.reduceLeDiff, Nat.reduceAdd, Nat.reduceMul, Nat.reduceSub, Nat.reduceLT, Int.reduceAdd, Int.reduceSub, Int.reduceMul, Int.reduceLT, Int.reduceLE, Int.reduceToNat, Int.reduceNeg, reduceIte, reduceCtorEq, SPx, SAx, hm, co99, sr99]
  rw [key _ _ _ _ rfl (by simp [Mem.row_new, Mem.row_setW, Mem.new_out, Mem.gen_new, Mem.gen_nil])]
  simp (maxSteps := 2000000) (disch := omega) only [SA, ofValue, ofCell, bin, intBin, un, idx, Go.Ev.builtin, calleeOf, V.isNilS, V.depthOk, depth1, V.ok1, V.isAgg, V.cells, isConst, Nat.reduceBEq, Nat.reduceEqDiff, ↓reduceIte, Nat.reduceLeDiff, Nat.reduceAdd, Nat.reduceMul, Nat.reduceSub, Nat.reduceLT, Int.reduceAdd, Int.reduceSub, Int.reduceMul, Int.reduceLT, Int.reduceLE, Int.reduceToNat, Int.reduceNeg, reduceIte, reduceCtorEq, SPx, SAx]
  refine hK _ _ ?_
  clear hK K
  refine gP @Nat.zero_add ?_
  refine rP hd @Tryd.results40 ?_
  try exact True.intro
end Go.Proofs.YtpocekfifokndaaDoor
namespace Go.Proofs.YtpocekfifokndaaDoor
open Go Go.Ev Go.Pl
set_option maxRecDepth 100000
set_option maxHeartbeats 4000000
theorem pow60 (M : Nat) : (60 : Nat) ^ M = 2 ^ (2 * M) * 3 ^ M * 5 ^ M := by rw [Nat.pow_mul, ← Nat.mul_pow, ← Nat.mul_pow]
theorem invW_mul (i j k : Nat) : 2 ^ i * 3 ^ j * 5 ^ k * invW i j k = 60 ^ invK i j k := by
  have h1 : i ≤ 2 * invK i j k := by unfold invK; omega
  have h2 : j ≤ invK i j k := by unfold invK; omega
  have h3 : k ≤ invK i j k := by unfold invK; omega
  unfold invW
  generalize invK i j k = M at *
  have e2 : 2 ^ i * 2 ^ (2 * M - i) = 2 ^ (2 * M) := by rw [← Nat.pow_add]; congr 1; omega
  have e3 : 3 ^ j * 3 ^ (M - j) = 3 ^ M := by rw [← Nat.pow_add]; congr 1; omega
  have e5 : 5 ^ k * 5 ^ (M - k) = 5 ^ M := by rw [← Nat.pow_add]; congr 1; omega
  rw [pow60, ← e2, ← e3, ← e5]
  generalize 2 ^ i = a
  generalize 2 ^ (2 * M - i) = a'
  generalize 3 ^ j = b
  generalize 3 ^ (M - j) = b'
  generalize 5 ^ k = c
  generalize 5 ^ (M - k) = c'
  grind
def Rec (A U : Nat) : Prop := ∃ p, A * U = 60 ^ p
theorem Rec.symm {A U : Nat} (h : Rec A U) : Rec U A := by obtain ⟨p, h⟩ := h; exact ⟨p, by rw [Nat.mul_comm]; exact h⟩
theorem Rec.pos {A U : Nat} (h : Rec A U) : 0 < A := by
  obtain ⟨p, h⟩ := h
  rcases Nat.eq_zero_or_pos A with rfl | h0
  · rw [Nat.zero_mul] at h; have := pow_pos p; omega
  · exact h0
theorem Rec.mul {A U B V : Nat} (h : Rec A U) (h' : Rec B V) : Rec (A * B) (U * V) := by
  obtain ⟨p, h⟩ := h
  obtain ⟨q, h'⟩ := h'
  exact ⟨p + q, by rw [Nat.pow_add, ← h, ← h', Nat.mul_mul_mul_comm]⟩
theorem Rec.core {A U : Nat} (h : Rec A U) : Rec (core A) U := by
  have hp := h.pos
  have hu := h.symm.pos
  obtain ⟨p, h⟩ := h
  have e := core_eq A
  have hc : 0 < Go.Pl.core A := by
    rcases Nat.eq_zero_or_pos (Go.Pl.core A) with h0 | h0
    · rw [h0, Nat.zero_mul] at e; omega
    · exact h0
  generalize vz A = v at e
  have h2 : Go.Pl.core A * U * 60 ^ v = 60 ^ p := by rw [← h]; conv => rhs; rw [e]
                                                     rw [Nat.mul_right_comm]
  have hv : v ≤ p := by
    have : 60 ^ v ≤ 60 ^ p := by rw [← h2]; exact Nat.le_mul_of_pos_left _ (Nat.mul_pos hc hu)
    exact (Nat.pow_le_pow_iff_right (by decide)).1 this
  refine ⟨p - v, Nat.eq_of_mul_eq_mul_right (pow_pos v) ?_⟩
  rw [h2, ← Nat.pow_add]; congr 1; omega
theorem Rec.uniq {A U V : Nat} (h : Rec A U) (h' : Rec A V) : Go.Pl.digB U = Go.Pl.digB V := by
  obtain ⟨p, h⟩ := h
  obtain ⟨q, h'⟩ := h'
  have e : U * 60 ^ q = V * 60 ^ p := by rw [← h', ← h, Nat.mul_comm A V, Nat.mul_comm A U, Nat.mul_left_comm, Nat.mul_left_comm V]
  rw [← digB_shift U q, e, digB_shift]
theorem Rec.one {A U : Nat} (h : Rec A U) : Go.Pl.digB (A * U) = [1] := by
  obtain ⟨p, h⟩ := h
  rw [h, show 60 ^ p = 1 * 60 ^ p by rw [Nat.one_mul], digB_shift]
  exact digB_num (l := [1]) (by decide) (by decide) (by decide)
theorem rec_inv (i j k : Nat) : Rec (2 ^ i * 3 ^ j * 5 ^ k) (invW i j k) := ⟨_, invW_mul i j k⟩
theorem cop {R p : Nat} (hp : p = 2 ∨ p = 3 ∨ p = 5) (h : R % p ≠ 0) : Nat.Coprime R p := by
  have h1 : Nat.gcd R p ∣ p := Nat.gcd_dvd_right _ _
  have h2 : Nat.gcd R p ∣ R := Nat.gcd_dvd_left _ _
  have h3 : Nat.gcd R p ≤ p := Nat.le_of_dvd (by omega) h1
  unfold Nat.Coprime
  generalize Nat.gcd R p = g at *
  have h4 : g ≠ p := by rintro rfl; exact h (Nat.mod_eq_zero_of_dvd h2)
  rcases hp with rfl | rfl | rfl
  · have : g = 0 ∨ g = 1 := by omega
    rcases this with rfl | rfl
    · simp at h1
    · rfl
  · have : g = 0 ∨ g = 1 ∨ g = 2 := by omega
    rcases this with rfl | rfl | rfl
    · simp at h1
    · rfl
    · exact absurd h1 (by decide)
  · have : g = 0 ∨ g = 1 ∨ g = 2 ∨ g = 3 ∨ g = 4 := by omega
    rcases this with rfl | rfl | rfl | rfl | rfl
    · simp at h1
    · rfl
    · exact absurd h1 (by decide)
    · exact absurd h1 (by decide)
    · exact absurd h1 (by decide)
theorem rem_dvd (p N : Nat) (hp : 1 < p) (hN : 0 < N) : rem p N ∣ N := ⟨p ^ mult p N, (rem_spec hp hN).1⟩
theorem Rec.split {A U : Nat} (h : Rec A U) : (splitF [2, 3, 5] A).2 = 1 := by
  have hp := h.pos
  obtain ⟨p, h⟩ := h
  show rem 5 (rem 3 (rem 2 A)) = 1
  obtain ⟨_, p2, n2⟩ := rem_spec (p := 2) (by decide) hp
  obtain ⟨_, p3, n3⟩ := rem_spec (p := 3) (by decide) p2
  obtain ⟨_, p5, n5⟩ := rem_spec (p := 5) (by decide) p3
  have d5 := rem_dvd 5 _ (by decide) p3
  have d3 := rem_dvd 3 _ (by decide) p2
  have d2 := rem_dvd 2 _ (by decide) hp
  have c2 : Nat.Coprime (rem 5 (rem 3 (rem 2 A))) 2 := Nat.Coprime.coprime_dvd_left (Nat.dvd_trans d5 d3) (cop (.inl rfl) n2)
  have c3 : Nat.Coprime (rem 5 (rem 3 (rem 2 A))) 3 := Nat.Coprime.coprime_dvd_left d5 (cop (.inr (.inl rfl)) n3)
  have c5 := cop (.inr (.inr rfl)) n5
  have c60 : Nat.Coprime (rem 5 (rem 3 (rem 2 A))) 60 := Nat.Coprime.mul_right (Nat.Coprime.mul_right (Nat.Coprime.mul_right c2 c2) c3) c5
  have hd : rem 5 (rem 3 (rem 2 A)) ∣ 60 ^ p := by
    rw [← h]
    exact Nat.dvd_trans (Nat.dvd_trans d5 (Nat.dvd_trans d3 d2)) (Nat.dvd_mul_right _ _)
  exact Nat.Coprime.eq_one_of_dvd (Nat.Coprime.pow_right p c60) hd
theorem reg_of_rec {a : List Nat} {U : Nat} (ha : Val 16 a) (h : Rec (numL a.reverse) U) : (regS (zi a)).2.2.2 = 0 := by
  have hl : (zi a).length ≠ 0 := by
    intro e
    have : a = [] := by simpa [zi] using e
    subst this
    have := h.pos
    simp [numL] at this
  rw [regS, if_neg (fun e => e ha.chk), if_neg hl, numI_zi, if_neg (fun e => e h.split)]
theorem rec_of_reg {a : List Nat} (h : (regS (zi a)).2.2.2 = 0) : Rec (numL a.reverse) (invW (regS (zi a)).1 (regS (zi a)).2.1 (regS (zi a)).2.2.1) := by
  obtain ⟨_, _, hN⟩ := reg_spec h
  rw [numI_zi] at hN
  rw [hN]
  exact rec_inv _ _ _
theorem Q32 {a : List Nat} {U : Nat} (ha : Val 16 a) (h : Rec (numL a.reverse) U) (hl : (Go.Pl.digB U).length ≤ 16) : Ans X 32 [.sl (nats a)] (.ret (.tup [.sl (nats (Go.Pl.digB U)), vi 0])) := by
  have q := P32 (zi a)
  have h0 := reg_of_rec ha h
  have e := (rec_of_reg h0).uniq h
  rw [recS, if_neg (fun x => x h0), e, if_neg (by omega), ← nats_zi] at q
  exact q
theorem Q31 {a : List Nat} {U : Nat} (ha : Val 16 a) (h : Rec (numL a.reverse) U) : ∃ i j k : Nat, Ans X 31 [.sl (nats a)] (.ret (.tup [vn i, vn j, vn k, vi 0])) := by
  have q := P31 (zi a)
  rw [reg_of_rec ha h, ← nats_zi] at q
  exact ⟨_, _, _, q⟩
theorem inv_len {i j k M : Nat} (h : invK i j k ≤ M) : (Go.Pl.digB (invW i j k)).length ≤ M + 1 :=
  digB_len (Nat.lt_of_le_of_lt (invW_le i j k) (Nat.pow_lt_pow_of_lt (by decide) (by omega)))
end Go.Proofs.YtpocekfifokndaaDoor
namespace Go.Proofs.YtpocekfifokndaaDoor
open Go Go.Ev Go.Pl
set_option maxRecDepth 100000
set_option maxHeartbeats 4000000
def prN (k : Nat) : Nat := if k = 0 then 2 else if k = 1 then 3 else 5
def b13 (n : Int) : Nat := (bringI n 13).toNat
theorem b13_le (n : Int) : b13 n ≤ 12 := by
  unfold b13 bringI
  rw [if_neg (by decide)]
  have := Int.emod_lt_of_pos n (by decide : (0 : Int) < 13)
  omega
theorem b13_vi (n : Int) : vi (bringI n 13) = vn (b13 n) := by
  unfold b13
  have : 0 ≤ bringI n 13 := by unfold bringI; rw [if_neg (by decide)]; exact Int.emod_nonneg n (by decide)
  congr 1; omega
def PW (e : Nat → Nat) : Nat → Nat
  | 0 => 1
  | k + 1 => PW e k * prN k ^ e k
theorem prN_le (k : Nat) : prN k ≤ 5 := by unfold prN; split <;> (try split) <;> omega
theorem PW_le {e : Nat → Nat} (he : ∀ k, e k ≤ 12) : ∀ k, PW e k ≤ 5 ^ (12 * k)
  | 0 => Nat.le_refl _
  | k + 1 => by
    have h1 := PW_le he k
    have h2 : prN k ^ e k ≤ 5 ^ 12 := Nat.le_trans (Nat.pow_le_pow_left (prN_le k) _) (Nat.pow_le_pow_right (by decide) (he k))
    rw [PW, Nat.mul_succ, Nat.pow_add]
    exact Nat.mul_le_mul h1 h2
theorem PW_lt {e : Nat → Nat} (he : ∀ k, e k ≤ 12) {k i : Nat} (hk : k < 3) (hi : i ≤ 12) : PW e k * prN k ^ i < 60 ^ 16 := by
  have h1 := PW_le he k
  have h2 : prN k ^ i ≤ 5 ^ 12 := Nat.le_trans (Nat.pow_le_pow_left (prN_le k) _) (Nat.pow_le_pow_right (by decide) hi)
  have h3 : 5 ^ (12 * k) ≤ 5 ^ 24 := Nat.pow_le_pow_right (by decide) (by omega)
  exact Nat.lt_of_le_of_lt (Nat.mul_le_mul (Nat.le_trans h1 h3) h2) (by decide)
def eN (p : Nat → Int) (k : Nat) : Nat := b13 (p k)
theorem PW3 (e : Nat → Nat) : PW e 3 = 2 ^ e 0 * 3 ^ e 1 * 5 ^ e 2 := by simp [PW, prN]
def AOk (m : Mem) (v : V) (a : List Nat) : Prop := v = .sl (nats a) ∨ (∃ z, v = .rs ⟨0, 10, 0, 1⟩ 3 0 1 ∧ a = [1] ∧ m.row ⟨0, 10, 0, 1⟩ = some ⟨1, 3, true, z, [vi 1]⟩)
theorem prime_val (k : Nat) : Val 16 [prN k] := by
  unfold prN
  split
  · exact ⟨by decide, by decide, by decide, by decide⟩
  · split
    · exact ⟨by decide, by decide, by decide, by decide⟩
    · exact ⟨by decide, by decide, by decide, by decide⟩
theorem digB_one : Go.Pl.digB 1 = [1] := digB_num (l := [1]) (by decide) (by decide) (by decide)
theorem cut_pr {k : Nat} (hk : k < 3) : cut [vi 2, vi 3, vi 5] k 1 = [vn (prN k)] := by
  match k, hk with
  | 0, _ => rfl
  | 1, _ => rfl
  | 2, _ => rfl
theorem P30 (p0 p1 p2 : Int) : Ans X 30 [.agg [vi p0, vi p1, vi p2]] (.ret (.tup [.sl (nats (digB (2 ^ b13 p0 * 3 ^ b13 p1 * 5 ^ b13 p2))), .bool true])) := by
  refine call_of_X (fn := Tryd.f30) 1 Tryd.func30 rfl (by decide +kernel) rfl ?_ ?_ ?_ ?_
  · rfl
  · intro h; exact absurd h (by rw [sr30]; decide)
  · intro v hv; injection hv with hv; subst hv; rfl
  intro s hs hd ho
  have hm : s.m = ⟨.nil, []⟩ := by subst hs; rfl
  have h0 : s.t.get 0 = .agg [vi p0, vi p1, vi p2] := by subst hs; rfl
  clear hs
  obtain ⟨pf, hpf⟩ : ∃ pf : Nat → Int, pf = fun k => if k = 0 then p0 else if k = 1 then p1 else p2 := ⟨_, rfl⟩
  have hget : ∀ k, k < 3 → [vi p0, vi p1, vi p2][k]? = some (vi (pf k)) := fun k hk => by
    subst hpf
    match k, hk with
    | 0, _ => rfl
    | 1, _ => rfl
    | 2, _ => rfl
  have hfin : 2 ^ b13 p0 * 3 ^ b13 p1 * 5 ^ b13 p2 = PW (eN pf) 3 := by rw [PW3]; subst hpf; rfl
  rw [hfin]
  clear hfin hpf
  have he : ∀ k, eN pf k ≤ 12 := fun k => b13_le _
  generalize hcs : [vi p0, vi p1, vi p2] = cs at h0 hget
  have hcl : cs.length = 3 := by rw [← hcs]; rfl
  have hcn : cs.any V.isNilS = false := by rw [← hcs]; rfl
  clear hcs
  repeat (first
    | with_reducible first | refine W_seq ?_ | refine W_skip ?_ | refine W_label ?_ | refine W_ret ?_ | refine W_exit ?_ | refine W_block ?_ | refine thenI ?_ | refine thenRet ?_ | refine thenExit ?_ | refine blockRet ?_ | refine blockI ?_ | refine blockExit ?_ | refine blockExitNe rfl ?_
    | (with_reducible refine W_region_k ?_
       intro K hK
       simp (maxSteps := 2000000) (disch := omega) only [SA, ofValue, ofCell, bin, intBin, un, idx, Go.Ev.builtin, calleeOf, V.isNilS, V.depthOk, depth1, V.ok1, V.isAgg, V.cells, isConst, Nat.reduceBEq, Nat.reduceEqDiff, ↓reduceIte, Nat.reduceLeDiff, Nat.reduceAdd, Nat.reduceMul, Nat.reduceSub, Nat.reduceLT, Int.reduceAdd, Int.reduceSub, Int.reduceMul, Int.reduceLT, Int.reduceLE, Int.reduceToNat, Int.reduceNeg, reduceIte, reduceCtorEq, SPx, SSx, appendTo, elemsOf, h0, hm, rep3, cut3, filled_agg _ _ hcn, hcl]
       refine hK _ _ ?_
       clear hK K)
  )
  refine W_loopg (fun (k : Nat) s => s.dfs = [] ∧ s.m.out.length = 0 ∧ s.t.get 1 = .ptr ⟨0, 1, 0, 1⟩ 0 0 ∧ s.t.get 5 = .rs ⟨0, 11, 0, 1⟩ 3 0 3 ∧ s.t.get 6 = vn k ∧ s.m.row ⟨0, 1, 0, 1⟩ = some ⟨1, 32, false, false, [.agg cs]⟩ ∧
    (∃ z, s.m.row ⟨0, 11, 0, 1⟩ = some ⟨1, 3, true, z, [vi 2, vi 3, vi 5]⟩) ∧ AOk s.m (s.t.get 4) (digB (PW (eN pf) k)) ∧ k ≤ 3) (fun k => 3 - k) 0 ?_ ?_
  · refine ⟨hd, ?_, ?_, ?_, ?_, ?_, ⟨false, ?_⟩, .inr ⟨false, ?_, digB_one, ?_⟩, Nat.zero_le _⟩
    all_goals (try refine f0 @hm ?_);all_goals try exact True.intro
    all_goals rfl
  clear hd ho hm h0
  rintro k s ⟨hd, ho, h1, h5, h6, r1, ⟨z, r11⟩, hA, hk⟩
  refine gP @h6 ?_
  refine cnd (fun h => ?_) (fun h => ?_)
  · have hk3 : k < 3 := by have := of_decide_eq_true h; omega
    clear h
    refine gP @Nat.zero_add ?_
    refine W_loopg (fun (i : Nat) s => s.dfs = [] ∧ s.m.out.length = 0 ∧ s.t.get 1 = .ptr ⟨0, 1, 0, 1⟩ 0 0 ∧ s.t.get 5 = .rs ⟨0, 11, 0, 1⟩ 3 0 3 ∧ s.t.get 6 = vn k ∧ s.t.get 7 = vn i ∧ s.m.row ⟨0, 1, 0, 1⟩ = some ⟨1, 32, false, false, [.agg cs]⟩ ∧
      (∃ z, s.m.row ⟨0, 11, 0, 1⟩ = some ⟨1, 3, true, z, [vi 2, vi 3, vi 5]⟩) ∧ AOk s.m (s.t.get 4) (digB (PW (eN pf) k * prN k ^ i)) ∧ i ≤ b13 (pf k)) (fun i => b13 (pf k) - i) 0 ?_ ?_
    · rw [Nat.pow_zero, Nat.mul_one]
      refine ⟨hd, ?_, ?_, ?_, ?_, ?_, ?_, ⟨z, ?_⟩, ?_, Nat.zero_le _⟩
      all_goals (try refine f0 (aI @ho <|aI @h1 <|aI @h5 <|aI @h6 <|aI @r1 <|@r11) ?_);all_goals try exact True.intro
      · rfl
      · exact hA
    clear hd ho h1 h5 h6 r1 r11 hA
    rintro i s ⟨hd, ho, h1, h5, h6, h7, r1, ⟨z, r11⟩, hA, hi⟩
    have q33 := P33 (pf k) 13 (by decide)
    rw [b13_vi] at q33
    have hg := hget k hk3
    have hk3' : (k : Int) < 3 := by omega
    have hk0 : (0 : Int) ≤ (k : Int) := by omega
    have hk1 : k + 1 ≤ 3 := by omega
    refine gP (aI @h1 <|aI @h6 <|aI @h7 <|aI @r1 <|aI @hk3' <|aI @hk0 <|aI @hk1 <|aI @hcl <|aI @hg <|aI @co33 <|aI @sr33 <|@q33.iffx) ?_
    refine cnd (fun h => ?_) (fun h => ?_)
    · have hi' : i < b13 (pf k) := by have := of_decide_eq_true h; omega
      clear h
      have h12 : b13 (pf k) ≤ 12 := b13_le _
      have hN := PW_lt he hk3 (i := i) (by omega)
      have hN1 := PW_lt he hk3 (i := i + 1) (by omega)
      have q := Q23 (digB_val hN) (prime_val k) (by
        rw [num_digB, show numL [prN k].reverse = prN k from by simp [numL], digB_core_mul]
        rw [Nat.pow_succ, ← Nat.mul_assoc] at hN1
        exact digB_len hN1)
      rw [num_digB, show numL [prN k].reverse = prN k from by simp [numL], digB_core_mul, Nat.mul_assoc, ← Nat.pow_succ] at q
      have q : Ans X 23 [.sl (nats (digB (PW (eN pf) k * prN k ^ i))), .sl [vn (prN k)]] (.ret (.tup [.sl (nats (digB (PW (eN pf) k * prN k ^ (i + 1)))), vi 0])) := q
      have hcut := cut_pr hk3
      have e1k : V.int .i64 (wr .i64 ((k : Int) + 1)) = vn (k + 1) := by rw [wr_i64 (by omega) (by omega)]; rfl
      have e1i : V.int .i64 (wr .i64 ((i : Int) + 1)) = vn (i + 1) := by rw [wr_i64 (by omega) (by omega)]; rfl
      have hb1 : (k : Int) ≤ ((k + 1 : Nat) : Int) := by omega
      have hb2 : ((k + 1 : Nat) : Int) ≤ ((3 : Nat) : Int) := by omega
      have hb3 : k + 1 - k = 1 := by omega
      clear hN hN1 hget he hcn h12
      rcases hA with ha | ⟨z2, ha, hone, ra⟩
      · refine gPS (aI @ha <|aI @h5 <|aI @h6 <|aI @h7 <|aI @r11 <|aI @ho <|aI @hcut <|aI @e1k <|aI @hk1 <|aI @hk0 <|aI @hb1 <|aI @hb2 <|aI @hb3 <|aI @co23 <|aI @sr23 <|@q.iffx) ?_
        refine cnd (fun h => ?_) (fun h => ?_)
        · simp at h
        clear h
        refine gPS (aI @h5 <|aI @h6 <|aI @h7 <|aI @r11 <|aI @ho <|@e1i) ?_
        refine ⟨i + 1, ⟨hd, ?_, ?_, ?_, ?_, ?_, ?_, ⟨true, ?_⟩, .inl ?_, hi'⟩, by omega⟩
        all_goals (try refine fS (aI @ha <|aI @h1 <|aI @h5 <|aI @h6 <|aI @h7 <|aI @r1 <|aI @r11 <|@ho) ?_);all_goals try exact True.intro
      · rw [hone] at q
        have q : Ans X 23 [.sl [vi 1], .sl [vn (prN k)]] _ := q
        refine gPS (aI @ha <|aI @h5 <|aI @h6 <|aI @h7 <|aI @r11 <|aI @ra <|aI @ho <|aI @hcut <|aI @e1k <|aI @hk1 <|aI @hk0 <|aI @hb1 <|aI @hb2 <|aI @hb3 <|aI @co23 <|aI @sr23 <|@q.iffx) ?_
        refine cnd (fun h => ?_) (fun h => ?_)
        · simp at h
        clear h
        refine gPS (aI @h5 <|aI @h6 <|aI @h7 <|aI @r11 <|aI @ra <|aI @ho <|@e1i) ?_
        refine ⟨i + 1, ⟨hd, ?_, ?_, ?_, ?_, ?_, ?_, ⟨true, ?_⟩, .inl ?_, hi'⟩, by omega⟩
        all_goals (try refine fS (aI @ha <|aI @h1 <|aI @h5 <|aI @h6 <|aI @h7 <|aI @r1 <|aI @r11 <|aI @ra <|@ho) ?_);all_goals try exact True.intro
    · have hik : i = b13 (pf k) := by have := of_decide_eq_false h; omega
      clear h
      have e1k : V.int .i64 (wr .i64 ((k : Int) + 1)) = vn (k + 1) := by rw [wr_i64 (by omega) (by omega)]; rfl
      refine gP (aI @h6 <|@e1k) ?_
      refine ⟨k + 1, ⟨hd, ?_, ?_, ?_, ?_, ?_, ⟨z, ?_⟩, ?_, hk3⟩, by omega⟩
      all_goals (try refine f0 (aI @ho <|aI @h1 <|aI @h5 <|aI @r1 <|@r11) ?_);all_goals try exact True.intro
      rw [PW, eN, ← hik]
      rcases hA with ha | ⟨z2, ha, hone, ra⟩
      · exact .inl (by simp (maxSteps := 2000000) (disch := omega) only [SO, Nat.reduceBEq, ha])
      · exact .inr ⟨z2, by simp (maxSteps := 2000000) (disch := omega) only [SO, Nat.reduceBEq, ha], hone, ra⟩
  · have hk' : k = 3 := by have := of_decide_eq_false h; omega
    subst hk'
    clear h
    rcases hA with ha | ⟨z2, ha, hone, ra⟩
    · refine gP @ha ?_
      refine rPA hd @Tryd.results30 ?_
      try exact True.intro
    · rw [hone]
      refine gP @ha ?_
      refine rPAS hd (aI @Tryd.results30 <|@ra) ?_
      try exact True.intro
      rfl
end Go.Proofs.YtpocekfifokndaaDoor
namespace Go.Proofs.YtpocekfifokndaaDoor
open Go Go.Ev Go.Pl
set_option maxRecDepth 100000
set_option maxHeartbeats 4000000
theorem reg_lt {x y z : Nat} (hx : x ≤ 12) (hy : y ≤ 12) (hz : z ≤ 12) : 2 ^ x * 3 ^ y * 5 ^ z < 60 ^ 16 :=
  Nat.lt_of_le_of_lt (Nat.mul_le_mul (Nat.mul_le_mul (Nat.pow_le_pow_right (by decide) hx) (Nat.pow_le_pow_right (by decide) hy)) (Nat.pow_le_pow_right (by decide) hz)) (by decide : 2 ^ 12 * 3 ^ 12 * 5 ^ 12 < 60 ^ 16)
theorem ltn (n : Nat) : ¬ ((n : Int) < 0) := by omega
theorem reg_bounds4 {i j k N : Nat} (hN : N < 60 ^ 4) (h : N = 2 ^ i * 3 ^ j * 5 ^ k) : invK i j k ≤ 14 := by
  have p2 : 0 < 2 ^ i := Nat.pow_pos (by decide)
  have p3 : 0 < 3 ^ j := Nat.pow_pos (by decide)
  have p5 : 0 < 5 ^ k := Nat.pow_pos (by decide)
  have b2 : i < 24 := pow_lt_of (b := 2) (N := N) (by decide) (by rw [h, Nat.mul_assoc]; exact Nat.le_mul_of_pos_right _ (Nat.mul_pos p3 p5)) (Nat.lt_trans hN (by decide))
  have b3 : j < 15 := pow_lt_of (b := 3) (N := N) (by decide) (by rw [h, Nat.mul_comm (2 ^ i), Nat.mul_assoc]; exact Nat.le_mul_of_pos_right _ (Nat.mul_pos p2 p5)) (Nat.lt_trans hN (by decide))
  have b5 : k < 11 := pow_lt_of (b := 5) (N := N) (by decide) (by rw [h]; exact Nat.le_mul_of_pos_left _ (Nat.mul_pos p2 p3)) (Nat.lt_trans hN (by decide))
  unfold invK; omega
theorem reg_cases {b : List Nat} (hb : Val 16 b) (h : (regS (zi b)).2.2.2 ≠ 0) : (b.length = 0 ∧ regS (zi b) = (0, 0, 0, 9)) ∨ (b.length ≠ 0 ∧ regS (zi b) = (0, 0, 0, 31)) := by
  have hl : (zi b).length = b.length := by simp [zi]
  rw [regS, if_neg (fun e => e hb.chk), hl] at h ⊢
  by_cases h0 : b.length = 0
  · rw [if_pos h0]; exact .inl ⟨h0, rfl⟩
  · rw [if_neg h0] at h ⊢
    by_cases h1 : (splitF [2, 3, 5] (numI (zi b))).2 ≠ 1
    · rw [if_pos h1]; exact .inr ⟨h0, rfl⟩
    · rw [if_neg h1] at h; exact absurd rfl h
theorem P5 (p0 p1 p2 : Int) (raw : List Int) (hraw : raw.length < 9223372036854775808) : Ans X 5 [.agg [vi p0, vi p1, vi p2], .sl (ints raw)] (.ret (.bool true)) := by
  refine call_of_X (fn := Tryd.f5) 2 Tryd.func5 rfl (by decide +kernel) rfl ?_ ?_ ?_ ?_
  · rfl
  · exact fun _ => rfl
  · intro v hv; injection hv with hv; subst hv; rfl
  intro s hs hd ho
  have hm : s.m = ⟨.nil, []⟩ := by subst hs; rfl
  have h0 : s.t.get 0 = .agg [vi p0, vi p1, vi p2] := by subst hs; rfl
  have h1 : s.t.get 1 = .sl (ints raw) := by subst hs; rfl
  clear hs
  have q30 := P30 p0 p1 p2
  have bx := b13_le p0
  have by' := b13_le p1
  have bz := b13_le p2
  generalize b13 p0 = x at q30 bx
  generalize b13 p1 = y at q30 by'
  generalize b13 p2 = z at q30 bz
  have hN := reg_lt bx by' bz
  have hR := rec_inv x y z
  have hU : (digB (invW x y z)).length ≤ 16 := Nat.le_trans (inv_len (M := 12) (by unfold invK; omega)) (by decide)
  have hUv : invW x y z < 60 ^ 16 := Nat.lt_of_le_of_lt (invW_le x y z) (Nat.pow_lt_pow_of_lt (by decide) (by unfold invK; omega))
  generalize 2 ^ x * 3 ^ y * 5 ^ z = N at q30 hN hR
  generalize invW x y z = U at hR hU hUv
  have va := digB_val hN
  have vr := digB_val hUv
  have eN := num_digB N
  have eU := num_digB U
  obtain ⟨i, j, k, q31⟩ := Q31 va (U := U) (by rw [eN]; exact hR.core)
  have q32 := Q32 va (U := U) (by rw [eN]; exact hR.core) hU
  have h1' := hR.core.symm.core.symm.one
  have q23 := Q23 va vr (by rw [eN, eU, h1']; decide)
  rw [eN, eU, h1'] at q23
  have q32b := Q32 vr (U := N) (by rw [eU]; exact hR.symm.core) va.len
  have q29 : Ans X 29 [.sl (nats [1]), vi 0, .sl [vi 1]] (.ret (.bool true)) := P29 [1] [1] 0 (by decide)
  have q29b := Q29 (digB N) (digB N) 0 (Nat.lt_of_le_of_lt va.len (by decide))
  rw [decide_eq_true ⟨rfl, rfl⟩] at q29b
  have q27 : Ans X 27 [.sl (ints raw), vi 4] _ := P27 raw 4 hraw (by decide)
  have vb := made_val raw 4
  generalize madeS raw 4 = b at q27 vb
  clear hN hR hU hUv va vr eN eU h1' bx by' bz hraw
  generalize digB N = a at *
  generalize digB U = r at *
  have ln := ltn
  refine gPA (aI @h0 <|aI @h1 <|aI @hm <|aI @Bool.not_true <|aI @bne_self_eq_false.{0} <|aI @co30 <|aI @sr30 <|@q30.iffx) ?_
  refine cnd (fun h => ?_) (fun h => ?_)
  · simp at h
  clear h
  refine gPS (aI @h0 <|aI @h1 <|aI @hm <|aI @Bool.not_true <|aI @bne_self_eq_false.{0} <|aI @ltn <|aI @co31 <|aI @sr31 <|aI @q31.iffx <|aI @co32 <|aI @sr32 <|@q32.iffx) ?_
  refine cnd (fun h => ?_) (fun h => ?_)
  · simp at h
  clear h
  refine gPS (aI @h0 <|aI @h1 <|aI @hm <|aI @Bool.not_true <|aI @bne_self_eq_false.{0} <|aI @co23 <|aI @sr23 <|aI @q23.iffx <|aI @co32 <|aI @sr32 <|aI @q32b.iffx <|aI @co29 <|aI @sr29 <|aI @q29.iffx <|@q29b.iffx) ?_
  refine cnd (fun h => ?_) (fun h => ?_)
  · simp at h
  clear h
  iterate 5 (first
    | with_reducible first | refine W_seq ?_ | refine W_skip ?_ | refine W_label ?_ | refine W_ret ?_ | refine W_exit ?_ | refine W_block ?_ | refine thenI ?_ | refine thenRet ?_ | refine thenExit ?_ | refine blockRet ?_ | refine blockI ?_ | refine blockExit ?_ | refine blockExitNe rfl ?_
    | (with_reducible refine W_region_k ?_
       intro K hK
       simp (maxSteps := 2000000) (disch := omega) only [SA, ofValue, ofCell, bin, intBin, un, idx, Go.Ev.builtin, calleeOf, V.isNilS, V.depthOk, depth1, V.ok1, V.isAgg, V.cells, isConst, Nat.reduceBEq, Nat.reduceEqDiff, ↓reduceIte, Nat.reduceLeDiff, Nat.reduceAdd, Nat.reduceMul, Nat.reduceSub, Nat.reduceLT, Int.reduceAdd, Int.reduceSub, Int.reduceMul, Int.reduceLT, Int.reduceLE, Int.reduceToNat, Int.reduceNeg, reduceIte, reduceCtorEq, SPx, h1, co27, sr27, q27.iff]
       refine hK _ _ ?_
       clear hK K)
  )
  clear q29b q30 q31 q32 q23 q32b q27 h0 h1 ln
  have b16 := vb.mono (m := 16) (by decide)
  by_cases hreg : (regS (zi b)).2.2.2 = 0
  · have hRb := rec_of_reg hreg
    have hK := reg_bounds4 vb.num_lt (by have := (reg_spec hreg).2.2; rw [numI_zi] at this; exact this)
    have hU := inv_len hK
    have hUv := Nat.lt_of_le_of_lt (invW_le (regS (zi b)).1 (regS (zi b)).2.1 (regS (zi b)).2.2.1) (Nat.pow_lt_pow_of_lt (a := 60) (m := 16) (by decide) (by omega))
    generalize invW (regS (zi b)).1 (regS (zi b)).2.1 (regS (zi b)).2.2.1 = U at hRb hU hUv
    have vu := digB_val hUv
    have q1 := Q32 b16 hRb (by omega)
    have h1' := hRb.symm.core.symm.one
    have q2 := Q23 b16 vu (by rw [num_digB, h1']; decide)
    rw [num_digB, h1'] at q2
    clear hRb hK hU hUv vu h1' hreg b16 vb
    generalize digB U = u at q1 q2
    refine gP (aI @co32 <|aI @sr32 <|@q1.iffx) ?_
    refine cnd (fun h => ?_) (fun h => ?_)
    · clear h
      refine gPS (aI @ho <|aI @hm <|aI @co23 <|aI @sr23 <|aI @q2.iffx <|aI @co29 <|aI @sr29 <|aI @q29.iffx <|aI @co26 <|aI @sr26 <|@P26.iffx) ?_
      refine rP hd @Tryd.results5 ?_
      try exact True.intro
    · simp at h
  · have q1 := P32 (zi b)
    have q2 := P31 (zi b)
    rw [recS, if_pos hreg, ← nats_zi] at q1
    rw [← nats_zi] at q2
    rcases reg_cases b16 hreg with ⟨c1, c2⟩ | ⟨c1, c2⟩
    · rw [c2] at q1 q2
      have q1 : Ans X 32 [.sl (nats b)] (.ret (.tup [.sl [], vi 9])) := q1
      have q2 : Ans X 31 [.sl (nats b)] (.ret (.tup [vi 0, vi 0, vi 0, vi 9])) := q2
      have c1' : (((b.length : Nat) : Int) == 0) = true := by rw [c1]; rfl
      clear hreg c1 c2 b16 vb
      refine gP (aI @co32 <|aI @sr32 <|@q1.iffx) ?_
      refine cnd (fun h => ?_) (fun h => ?_)
      · simp at h
      clear h
      refine gP (aI @nats_length <|aI @co31 <|aI @sr31 <|aI @q2.iffx <|aI @c1' <|aI @eqT4 <|aI @eqOkb <|aI @beq_self_eq_true.{0} <|aI @co26 <|aI @sr26 <|@P26.iffx) ?_
      refine rP hd @Tryd.results5 ?_
      try exact True.intro
    · rw [c2] at q1 q2
      have q1 : Ans X 32 [.sl (nats b)] (.ret (.tup [.sl [], vi 31])) := q1
      have q2 : Ans X 31 [.sl (nats b)] (.ret (.tup [vi 0, vi 0, vi 0, vi 31])) := q2
      have c1' : (((b.length : Nat) : Int) == 0) = false := by rw [beq_eq_false_iff_ne]; omega
      have c9 : ((31 : Int) == 9) = false := by decide
      clear hreg c1 c2 b16 vb
      refine gP (aI @co32 <|aI @sr32 <|@q1.iffx) ?_
      refine cnd (fun h => ?_) (fun h => ?_)
      · simp at h
      clear h
      refine gP (aI @nats_length <|aI @co31 <|aI @sr31 <|aI @q2.iffx <|aI @c1' <|aI @c9 <|aI @eqT4 <|aI @eqOkb <|aI @beq_self_eq_true.{0} <|aI @co26 <|aI @sr26 <|@P26.iffx) ?_
      refine rP hd @Tryd.results5 ?_
      try exact True.intro
end Go.Proofs.YtpocekfifokndaaDoor
namespace Go.Proofs.YtpocekfifokndaaDoor
open Go Go.Ev Go.Pl
set_option maxRecDepth 100000
set_option maxHeartbeats 4000000
theorem Rec.of_core {A U : Nat} (h : Rec (Go.Pl.core A) U) : Rec A U := by
  obtain ⟨p, h⟩ := h
  refine ⟨p + vz A, ?_⟩
  have e := core_eq A
  rw [Nat.pow_add, ← h]
  conv => lhs; rw [e]
  rw [Nat.mul_right_comm]
theorem Rec.div {A B U : Nat} (h : Rec (A * B) U) : Rec A (B * U) := by
  obtain ⟨p, h⟩ := h
  exact ⟨p, by rw [← Nat.mul_assoc]; exact h⟩
theorem core_self {N : Nat} (h : N % 60 ≠ 0) : core N = N := by
  have hv : vz N = 0 := by rw [vz, dif_neg (fun e => h e.1)]
  rw [core, hv, Nat.pow_zero, Nat.div_one]
def rg (f : Nat) : Prop := (regS (zi (digB f))).2.2.2 = 0
def uF (f : Nat) : Nat := invW (regS (zi (digB f))).1 (regS (zi (digB f))).2.1 (regS (zi (digB f))).2.2.1
theorem rg_rec {f : Nat} (h : rg f) : Rec f (uF f) := by
  have q := rec_of_reg (a := digB f) h
  rw [num_digB] at q
  exact Rec.of_core q
theorem rg_of {f U : Nat} (hf : f < 60 ^ 16) (h : Rec f U) : rg f := reg_of_rec (digB_val hf) (by rw [num_digB]; exact h.core)
theorem rg_len {f : Nat} (hf : f < 60 ^ 4) (h : rg f) : (digB (uF f)).length ≤ 15 ∧ uF f < 60 ^ 15 ∧ (recS (zi (digB f))).1 = digB (uF f) := by
  have hN := (reg_spec h).2.2
  rw [numI_zi, num_digB] at hN
  have hK := reg_bounds4 (Nat.lt_of_le_of_lt (Nat.div_le_self _ _) hf : core f < 60 ^ 4) hN
  have hl := inv_len hK
  refine ⟨hl, Nat.lt_of_le_of_lt (invW_le _ _ _) (Nat.pow_lt_pow_of_lt (by decide) (by omega)), ?_⟩
  rw [recS, if_neg (fun e => e h), if_neg]
  · rfl
  · have : (digB (uF f)).length ≤ 15 := hl
    unfold uF at this; omega
theorem rg2 : rg 2 := rg_of (by decide) (U := 30) ⟨1, rfl⟩
theorem rg3 : rg 3 := rg_of (by decide) (U := 20) ⟨1, rfl⟩
theorem rg5 : rg 5 := rg_of (by decide) (U := 12) ⟨1, rfl⟩
theorem stepL_mem : ∀ {k w f : Nat}, w + f ≤ k → ∀ g ∈ stepL w f, 1 < g ∧ g ≤ f ∧ rg g ∧ g ∣ w
  | 0, w, f, hk, g, hg => by
    rw [stepL, dif_neg (by omega)] at hg; simp at hg
  | k + 1, w, f, hk, g, hg => by
    by_cases h : 1 < f ∧ 0 < w
    · by_cases c : (regS (zi (digB f))).2.2.2 = 0 ∧ w % f = 0
      · rw [stepL_yes h.1 h.2 c] at hg
        rcases List.mem_cons.1 hg with rfl | hg
        · exact ⟨h.1, Nat.le_refl _, c.1, Nat.dvd_of_mod_eq_zero c.2⟩
        · have hlt := Nat.div_lt_self h.2 h.1
          obtain ⟨a, b, d, e⟩ := stepL_mem (k := k) (w := w / f) (f := f) (by omega) g hg
          refine ⟨a, b, d, Nat.dvd_trans e ?_⟩
          exact ⟨f, (Nat.div_mul_cancel (Nat.dvd_of_mod_eq_zero c.2)).symm⟩
      · rw [stepL_no h.1 h.2 c] at hg
        obtain ⟨a, b, d, e⟩ := stepL_mem (k := k) (w := w) (f := f - 1) (by omega) g hg
        exact ⟨a, by omega, d, e⟩
    · rw [stepL, dif_neg h] at hg; simp at hg
theorem stepL_prod : ∀ {k w f : Nat}, w + f ≤ k → 0 < f → (∃ U, Rec w U) → (w % 5 = 0 → 5 ≤ f) → (w % 3 = 0 → 3 ≤ f) → (w % 2 = 0 → 2 ≤ f) → (stepL w f).prod = w
  | 0, w, f, hk, hf, ⟨U, hU⟩, _, _, _ => by have := hU.pos; omega
  | k + 1, w, f, hk, hf, ⟨U, hU⟩, h5, h3, h2 => by
    have hw := hU.pos
    by_cases h : 1 < f
    · by_cases c : (regS (zi (digB f))).2.2.2 = 0 ∧ w % f = 0
      · rw [stepL_yes h hw c]
        have hlt := Nat.div_lt_self hw h
        have e : w / f * f = w := Nat.div_mul_cancel (Nat.dvd_of_mod_eq_zero c.2)
        have up : ∀ p, w / f % p = 0 → w % p = 0 := fun p hp => by
          rw [← e]
          exact Nat.mod_eq_zero_of_dvd (Nat.dvd_trans (Nat.dvd_of_mod_eq_zero hp) (Nat.dvd_mul_right _ _))
        rw [List.prod_cons, stepL_prod (k := k) (by omega) hf ⟨f * U, Rec.div (by rw [e]; exact hU)⟩ (fun x => h5 (up 5 x)) (fun x => h3 (up 3 x)) (fun x => h2 (up 2 x)), Nat.mul_comm]
        exact e
      · rw [stepL_no h hw c]
        refine stepL_prod (k := k) (by omega) (by omega) ⟨U, hU⟩ (fun x => ?_) (fun x => ?_) (fun x => ?_)
        · have := h5 x
          rcases Nat.lt_or_ge 5 f with hh | hh
          · omega
          · obtain rfl : f = 5 := by omega
            exact absurd ⟨rg5, x⟩ c
        · have := h3 x
          rcases Nat.lt_or_ge 3 f with hh | hh
          · omega
          · obtain rfl : f = 3 := by omega
            exact absurd ⟨rg3, x⟩ c
        · have := h2 x
          rcases Nat.lt_or_ge 2 f with hh | hh
          · omega
          · obtain rfl : f = 2 := by omega
            exact absurd ⟨rg2, x⟩ c
    · obtain rfl : f = 1 := by omega
      rw [stepL_end (by decide)]
      have n5 : w % 5 ≠ 0 := fun x => by have := h5 x; omega
      have n3 : w % 3 ≠ 0 := fun x => by have := h3 x; omega
      have n2 : w % 2 ≠ 0 := fun x => by have := h2 x; omega
      have hs := hU.split
      have e : (splitF [2, 3, 5] w).2 = rem 5 (rem 3 (rem 2 w)) := rfl
      rw [e, rem_no n2, rem_no n3, rem_no n5] at hs
      rw [hs]; rfl
theorem prod_take_dvd : ∀ (L : List Nat) (i : Nat), (L.take i).prod ∣ L.prod
  | [], i => by simp
  | x :: L, 0 => by rw [List.take_zero, List.prod_nil]; exact Nat.one_dvd _
  | x :: L, i + 1 => by
    rw [List.take_succ_cons, List.prod_cons, List.prod_cons]
    exact Nat.mul_dvd_mul_left _ (prod_take_dvd L i)
theorem prod_two : ∀ {L : List Nat}, (∀ f ∈ L, 1 < f) → 2 ^ L.length ≤ L.prod
  | [], _ => by simp
  | x :: L, h => by
    have h1 := prod_two (L := L) (fun f hf => h f (List.mem_cons_of_mem _ hf))
    have h2 := h x List.mem_cons_self
    rw [List.length_cons, Nat.pow_succ, List.prod_cons, Nat.mul_comm]
    exact Nat.mul_le_mul h2 h1
theorem rec_len {A U K P V : Nat} (hA : A * U = 60 ^ K) (hd : P ∣ A) (h : Rec P V) : (digB V).length ≤ K + 1 ∧ digB V = digB (A / P * U) ∧ A / P * U < 60 ^ (K + 1) := by
  have e : P * (A / P * U) = 60 ^ K := by rw [← Nat.mul_assoc, Nat.mul_div_cancel' hd]; exact hA
  have h1 := h.uniq (V := A / P * U) ⟨K, e⟩
  have hle : A / P * U ≤ 60 ^ K := by rw [← e]; exact Nat.le_mul_of_pos_left _ h.pos
  have hlt : A / P * U < 60 ^ (K + 1) := Nat.lt_of_le_of_lt hle (Nat.pow_lt_pow_of_lt (by decide) (by omega))
  refine ⟨by rw [h1]; exact digB_len hlt, h1, hlt⟩
theorem pairsV_get {L : List Nat} {i f : Nat} (h : L[i]? = some f) : (pairsV L)[i]? = some (.agg [.sl (nats (digB f)), .sl (nats (recS (zi (digB f))).1)]) := by
  rw [pairsV, List.getElem?_map, h]; rfl
theorem take_prod_succ {L : List Nat} {i f : Nat} (h : L[i]? = some f) : (L.take (i + 1)).prod = (L.take i).prod * f := by
  rw [List.take_add_one, h]; simp
end Go.Proofs.YtpocekfifokndaaDoor
