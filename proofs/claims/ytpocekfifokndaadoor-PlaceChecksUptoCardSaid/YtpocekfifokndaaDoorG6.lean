/- Part 6 of the proof: an evaluator of the program, proved sound against the model, and what the functions of the program compute. No condition but those each theorem states. -/
import Derived.Test.YtpocekfifokndaaDoorG2
import Derived.Test.YtpocekfifokndaaDoorG1
import Derived.Test.YtpocekfifokndaaDoorG3
set_option linter.unusedSimpArgs false
set_option linter.unusedVariables false
namespace Go.Proofs.YtpocekfifokndaaDoor
open Go Go.Ev Go.Pl
set_option maxRecDepth 100000
set_option maxHeartbeats 4000000
theorem sr165 : scalarRes Tryd.prog 165 = true := by kernel_rfl
theorem co165 : callOk Tryd.prog 165 = true := by kernel_rfl
theorem sr156 : scalarRes Tryd.prog 156 = true := by kernel_rfl
theorem co156 : callOk Tryd.prog 156 = true := by kernel_rfl
theorem sr146 : scalarRes Tryd.prog 146 = true := by kernel_rfl
theorem co146 : callOk Tryd.prog 146 = true := by kernel_rfl
theorem dec36 : ∀ k, k < 10 → List.take (k + 1 - k) (List.drop k ([48, 49, 50, 51, 52, 53, 54, 55, 56, 57, 97, 98, 99, 100, 101, 102, 103, 104, 105, 106, 107, 108, 109, 110, 111, 112, 113, 114, 115, 116, 117, 118, 119, 120, 121, 122] : List UInt8)) = decB k := by decide +kernel
theorem dec200 : ∀ k, k < 100 → 10 ≤ k → List.take (k * 2 + 2 - k * 2) (List.drop (k * 2) ([48, 48, 48, 49, 48, 50, 48, 51, 48, 52, 48, 53, 48, 54, 48, 55, 48, 56, 48, 57, 49, 48, 49, 49, 49, 50, 49, 51, 49, 52, 49, 53, 49, 54, 49, 55, 49, 56, 49, 57, 50, 48, 50, 49, 50, 50, 50, 51, 50, 52, 50, 53, 50, 54, 50, 55, 50, 56, 50, 57, 51, 48, 51, 49, 51, 50, 51, 51, 51, 52, 51, 53, 51, 54, 51, 55, 51, 56, 51, 57, 52, 48, 52, 49, 52, 50, 52, 51, 52, 52, 52, 53, 52, 54, 52, 55, 52, 56, 52, 57, 53, 48, 53, 49, 53, 50, 53, 51, 53, 52, 53, 53, 53, 54, 53, 55, 53, 56, 53, 57, 54, 48, 54, 49, 54, 50, 54, 51, 54, 52, 54, 53, 54, 54, 54, 55, 54, 56, 54, 57, 55, 48, 55, 49, 55, 50, 55, 51, 55, 52, 55, 53, 55, 54, 55, 55, 55, 56, 55, 57, 56, 48, 56, 49, 56, 50, 56, 51, 56, 52, 56, 53, 56, 54, 56, 55, 56, 56, 56, 57, 57, 48, 57, 49, 57, 50, 57, 51, 57, 52, 57, 53, 57, 54, 57, 55, 57, 56, 57, 57] : List UInt8)) = decB k := by decide +kernel
theorem P165 (n : Nat) (hn : n < 100) : Ans X 165 [vn n] (.ret (.str (decB n))) := by
  refine call_of_X (fn := Tryd.f165) 1 Tryd.func165 rfl (by decide +kernel) rfl ?_ ?_ ?_ ?_
  · rfl
  · exact fun _ => rfl
  · intro v hv; injection hv with hv; subst hv; rfl
  intro s hs hd ho
  have h0 : s.t.get 0 = vn n := by subst hs; rfl
  clear hs
  refine gP @h0 ?_
  refine cnd (fun h => ?_) (fun h => ?_)
  · have h := of_decide_eq_true h
    have e1 : V.int .i64 (wr .i64 ((n : Int) + 1)) = vn (n + 1) := by rw [wr_i64 (by omega) (by omega)]; rfl
    have hb : bounds 36 (some (vn n)) (some (vn (n + 1))) = some (n, n + 1) := by
      show (if (0 : Int) ≤ (n : Int) ∧ (n : Int) ≤ ((n + 1 : Nat) : Int) ∧ ((n + 1 : Nat) : Int) ≤ ((36 : Nat) : Int) then some ((n : Int).toNat, ((n + 1 : Nat) : Int).toNat) else none) = _
      rw [if_pos ⟨by omega, by omega, by omega⟩]
      rfl
    refine gP (aI @h0 <|aI @e1 <|@hb) ?_
    refine rP hd @Tryd.results165 ?_
    try exact True.intro
    exact congrArg V.str (dec36 n (by omega))
  · have h := of_decide_eq_false h
    have e1 : V.int .i64 (wr .i64 ((n : Int) * 2)) = vn (n * 2) := by rw [show (n : Int) * 2 = ((n * 2 : Nat) : Int) from rfl, wr_nat (by omega)]
    have e2 : V.int .i64 (wr .i64 (((n * 2 : Nat) : Int) + 2)) = vn (n * 2 + 2) := by rw [wr_i64 (by omega) (by omega)]; rfl
    have hb : bounds 200 (some (vn (n * 2))) (some (vn (n * 2 + 2))) = some (n * 2, n * 2 + 2) := by
      show (if (0 : Int) ≤ ((n * 2 : Nat) : Int) ∧ ((n * 2 : Nat) : Int) ≤ ((n * 2 + 2 : Nat) : Int) ∧ ((n * 2 + 2 : Nat) : Int) ≤ ((200 : Nat) : Int) then some (((n * 2 : Nat) : Int).toNat, ((n * 2 + 2 : Nat) : Int).toNat) else none) = _
      rw [if_pos ⟨by omega, by omega, by omega⟩]
      rfl
    refine g0 @Nat.zero_add ?_
    with_reducible refine W_region_k ?_
    intro K hK
    simp (maxSteps := 2000000) (disch := omega) only [SA, ofValue, ofCell, bin, intBin, un, idx, Go.Ev.builtin, calleeOf, V.isNilS, V.depthOk, depth1, V.ok1, V.isAgg, V.cells, isConst, Nat.reduceBEq, Nat.reduceEqDiff, ↓reduceIte, Nat.reduceLeDiff, Nat.reduceAdd, Nat.reduceMul, Nat.reduceSub, Nat.reduceLT, Int.reduceAdd, Int.reduceSub, Int.reduceMul, Int.reduceLT, Int.reduceLE, Int.reduceToNat, Int.reduceNeg, reduceIte, reduceCtorEq, SPx, h0, e1, e2, List.append_eq, List.cons_append, List.nil_append, hb]
    refine hK _ _ ?_
    clear hK K
    refine gP @Nat.zero_add ?_
    refine rP hd @Tryd.results165 ?_
    try exact True.intro
    exact congrArg V.str (dec200 n hn (by omega))
theorem P156 (n : Nat) (hn : n < 100) : Ans X 156 [vn n, vi 10] (.ret (.str (decB n))) := by
  refine call_of_X (fn := Tryd.f156) 2 Tryd.func156 rfl (by decide +kernel) rfl ?_ ?_ ?_ ?_
  · rfl
  · exact fun _ => rfl
  · intro v hv; injection hv with hv; subst hv; rfl
  intro s hs hd ho
  have h0 : s.t.get 0 = vn n := by subst hs; rfl
  have h1 : s.t.get 1 = vi 10 := by subst hs; rfl
  clear hs
  have q := P165 n hn
  have c1 : (0 : Int) ≤ (n : Int) := by omega
  have c2 : (n : Int) < 100 := by omega
  refine gP (aI @h0 <|@h1) ?_
  refine cnd (fun h => ?_) (fun h => ?_)
  · refine gP (aI @h0 <|aI @h1 <|aI @c1 <|@c2) ?_
    refine cnd (fun h => ?_) (fun h => ?_)
    · refine gP (aI @h0 <|aI @ho <|aI @co165 <|aI @sr165 <|@q.iffx) ?_
      refine rP hd @Tryd.results156 ?_
      try exact True.intro
    · simp at h
  · simp at h
theorem P146 (n : Nat) (hn : n < 100) : Ans X 146 [vn n] (.ret (.str (decB n))) := by
  refine call_of_X (fn := Tryd.f146) 1 Tryd.func146 rfl (by decide +kernel) rfl ?_ ?_ ?_ ?_
  · rfl
  · exact fun _ => rfl
  · intro v hv; injection hv with hv; subst hv; rfl
  intro s hs hd ho
  have h0 : s.t.get 0 = vn n := by subst hs; rfl
  clear hs
  have q := P156 n hn
  refine gP (aI @h0 <|aI @ho <|aI @co156 <|aI @sr156 <|@q.iffx) ?_
  refine rP hd @Tryd.results146 ?_
  try exact True.intro
theorem P129 (n : Nat) (hn : n < 100) : Ans X 129 [vn n] (.ret (.str (decB n))) := by
  refine call_of_X (fn := Tryd.f129) 1 Tryd.func129 rfl (by decide +kernel) rfl ?_ ?_ ?_ ?_
  · rfl
  · exact fun _ => rfl
  · intro v hv; injection hv with hv; subst hv; rfl
  intro s hs hd ho
  have h0 : s.t.get 0 = vn n := by subst hs; rfl
  clear hs
  have q := P146 n hn
  refine gP (aI @h0 <|aI @ho <|aI @co146 <|aI @sr146 <|@q.iffx) ?_
  refine rP hd @Tryd.results129 ?_
  try exact True.intro
end Go.Proofs.YtpocekfifokndaaDoor
namespace Go.Proofs.YtpocekfifokndaaDoor
open Go Go.Ev Go.Pl
set_option maxRecDepth 100000
set_option maxHeartbeats 4000000
theorem D137n (own oM : Go.Ev.Rows) : ∃ k, evD X k 137 [.ptr ⟨1, 4, 0, 1⟩ 0 0, .ptr ⟨1, 5, 0, 1⟩ 0 0] [own, oM] none = some [own, oM] := by
  refine evD_of (X := X) (fn := Tryd.f137) Tryd.func137 rfl rfl ⟨by decide +kernel, Nat.le_of_ble_eq_true rfl, rfl, co137⟩ rfl ?_
  have hm : (enter [V.ptr ⟨1, 4, 0, 1⟩ 0 0, V.ptr ⟨1, 5, 0, 1⟩ 0 0] [own, oM]).m = ⟨.nil, [own, oM]⟩ := rfl
  have hd : (enter [V.ptr ⟨1, 4, 0, 1⟩ 0 0, V.ptr ⟨1, 5, 0, 1⟩ 0 0] [own, oM]).dfs = [] := rfl
  generalize enter [V.ptr ⟨1, 4, 0, 1⟩ 0 0, V.ptr ⟨1, 5, 0, 1⟩ 0 0] [own, oM] = s at *
  refine WL_k ?_
  intro K hK
  simp (maxSteps := 2000000) (disch := omega) only [SA, ofValue, ofCell, bin, intBin, un, idx, Go.Ev.builtin, calleeOf, V.isNilS, V.depthOk, depth1, V.ok1, V.isAgg, V.cells, isConst, Nat.reduceBEq, Nat.reduceEqDiff, ↓reduceIte, Nat.reduceLeDiff, Nat.reduceAdd, Nat.reduceMul, Nat.reduceSub, Nat.reduceLT, Int.reduceAdd, Int.reduceSub, Int.reduceMul, Int.reduceLT, Int.reduceLE, Int.reduceToNat, Int.reduceNeg, reduceIte, reduceCtorEq, SPx, hm]
  refine hK _ _ ⟨rfl, ?_⟩
  clear hK K
  repeat (first
    | with_reducible first | refine W_seq ?_ | refine W_skip ?_ | refine W_label ?_ | refine W_ret ?_ | refine W_exit ?_ | refine W_block ?_ | refine thenI ?_ | refine thenRet ?_ | refine thenExit ?_ | refine blockRet ?_ | refine blockI ?_ | refine blockExit ?_ | refine blockExitNe rfl ?_
    | (with_reducible refine W_region_k ?_
       intro K hK
       simp (maxSteps := 2000000) (disch := omega) only [SA, ofValue, ofCell, bin, intBin, un, idx, Go.Ev.builtin, calleeOf, V.isNilS, V.depthOk, depth1, V.ok1, V.isAgg, V.cells, isConst, Nat.reduceBEq, Nat.reduceEqDiff, ↓reduceIte, Nat.reduceLeDiff, Nat.reduceAdd, Nat.reduceMul, Nat.reduceSub, Nat.reduceLT, Int.reduceAdd, Int.reduceSub, Int.reduceMul, Int.reduceLT, Int.reduceLE, Int.reduceToNat, Int.reduceNeg, reduceIte, reduceCtorEq, SPx, bin, eqOk, eqT, isConst, Bool.or_true, Option.map_some]
       refine hK _ _ ?_
       clear hK K)
  )
  refine cnd (fun h => ?_) (fun h => ?_)
  · simp at h
  · refine gP @Nat.zero_add ?_
    exact ⟨.inl rfl, by simp [hd], rfl⟩
theorem D137p (own oM : Go.Ev.Rows) (k : Int) (x4 x5 : V) (h4 : (⟨own, [oM]⟩ : Mem).row ⟨1, 4, 0, 1⟩ = some ⟨1, 45, false, false, [x4]⟩) (h5 : (⟨own, [oM]⟩ : Mem).row ⟨1, 5, 0, 1⟩ = some ⟨1, 23, false, false, [x5]⟩) :
    ∃ j, evD X j 137 [.ptr ⟨1, 4, 0, 1⟩ 0 0, .ptr ⟨1, 5, 0, 1⟩ 0 0] [own, oM] (some (.ifc 23 (vi k))) =
      some [((own.upd 4 500 ⟨(own.get 4 500).g + 1, 0, true, false, []⟩).upd 4 0 ⟨1, 45, false, false, [.rs ⟨1, 4, 500, (own.get 4 500).g + 1⟩ 0 0 0]⟩).upd 5 0 ⟨1, 23, false, false, [vi k]⟩, oM] := by
  refine evD_of (X := X) (fn := Tryd.f137) Tryd.func137 rfl rfl ⟨by decide +kernel, Nat.le_of_ble_eq_true rfl, rfl, co137⟩ rfl ?_
  have hm : (enter [V.ptr ⟨1, 4, 0, 1⟩ 0 0, V.ptr ⟨1, 5, 0, 1⟩ 0 0] [own, oM]).m = ⟨.nil, [own, oM]⟩ := rfl
  have hd : (enter [V.ptr ⟨1, 4, 0, 1⟩ 0 0, V.ptr ⟨1, 5, 0, 1⟩ 0 0] [own, oM]).dfs = [] := rfl
  have t0 : (enter [V.ptr ⟨1, 4, 0, 1⟩ 0 0, V.ptr ⟨1, 5, 0, 1⟩ 0 0] [own, oM]).t.get 0 = .ptr ⟨1, 4, 0, 1⟩ 0 0 := rfl
  have t1 : (enter [V.ptr ⟨1, 4, 0, 1⟩ 0 0, V.ptr ⟨1, 5, 0, 1⟩ 0 0] [own, oM]).t.get 1 = .ptr ⟨1, 5, 0, 1⟩ 0 0 := rfl
  generalize enter [V.ptr ⟨1, 4, 0, 1⟩ 0 0, V.ptr ⟨1, 5, 0, 1⟩ 0 0] [own, oM] = s at *
  have h4' : (⟨.nil, [own, oM]⟩ : Mem).row ⟨1, 4, 0, 1⟩ = some ⟨1, 45, false, false, [x4]⟩ := by rw [row_outer _ _ _ _ (by simp), h4]
  have h5' : (⟨.nil, [own, oM]⟩ : Mem).row ⟨1, 5, 0, 1⟩ = some ⟨1, 23, false, false, [x5]⟩ := by rw [row_outer _ _ _ _ (by simp), h5]
  refine WL_k ?_
  intro K hK
  simp (maxSteps := 2000000) (disch := omega) only [SA, ofValue, ofCell, bin, intBin, un, idx, Go.Ev.builtin, calleeOf, V.isNilS, V.depthOk, depth1, V.ok1, V.isAgg, V.cells, isConst, Nat.reduceBEq, Nat.reduceEqDiff, ↓reduceIte, Nat.reduceLeDiff, Nat.reduceAdd, Nat.reduceMul, Nat.reduceSub, Nat.reduceLT, Int.reduceAdd, Int.reduceSub, Int.reduceMul, Int.reduceLT, Int.reduceLE, Int.reduceToNat, Int.reduceNeg, reduceIte, reduceCtorEq, SPx, hm]
  refine hK _ _ ⟨rfl, ?_⟩
  clear hK K
  repeat (first
    | with_reducible first | refine W_seq ?_ | refine W_skip ?_ | refine W_label ?_ | refine W_ret ?_ | refine W_exit ?_ | refine W_block ?_ | refine thenI ?_ | refine thenRet ?_ | refine thenExit ?_ | refine blockRet ?_ | refine blockI ?_ | refine blockExit ?_ | refine blockExitNe rfl ?_
    | (with_reducible refine W_region_k ?_
       intro K hK
       simp (maxSteps := 2000000) (disch := omega) only [SA, ofValue, ofCell, bin, intBin, un, idx, Go.Ev.builtin, calleeOf, V.isNilS, V.depthOk, depth1, V.ok1, V.isAgg, V.cells, isConst, Nat.reduceBEq, Nat.reduceEqDiff, ↓reduceIte, Nat.reduceLeDiff, Nat.reduceAdd, Nat.reduceMul, Nat.reduceSub, Nat.reduceLT, Int.reduceAdd, Int.reduceSub, Int.reduceMul, Int.reduceLT, Int.reduceLE, Int.reduceToNat, Int.reduceNeg, reduceIte, reduceCtorEq, SPx, bin, eqOk, eqT, isConst, Bool.or_true, Option.map_some]
       refine hK _ _ ?_
       clear hK K)
  )
  refine cnd (fun h => ?_) (fun h => ?_)
  · refine gPAS (aI @t0 <|aI @t1 <|aI @h4' <|aI @h5' <|aI @co133 <|aI @sr133 <|aI ((P133 k).iffx) <|aI @Mem.rows_new <|@Mem.rows_lit) ?_
    refine ⟨.inl rfl, by simp [hd], ?_⟩
    simp [Mem.new, Mem.set, outSet]
  · simp at h
theorem fin99 {oM : Go.Ev.Rows} {s : St} {es : List V} {k : Int} (hd : s.dfs = [(137, [.ptr ⟨1, 4, 0, 1⟩ 0 0, .ptr ⟨1, 5, 0, 1⟩ 0 0])]) (ho : s.m.out = [oM]) (h4 : s.t.get 4 = .ptr ⟨1, 4, 0, 1⟩ 0 0) (h5 : s.t.get 5 = .ptr ⟨1, 5, 0, 1⟩ 0 0)
    (r4 : s.m.row ⟨1, 4, 0, 1⟩ = some ⟨1, 45, false, false, [.sl es]⟩) (r5 : s.m.row ⟨1, 5, 0, 1⟩ = some ⟨1, 23, false, false, [vi k]⟩) :
    finQ X Tryd.f99 (.ret (.tup [.sl es, vi k]), [oM]) .ret s := by
  obtain ⟨t, ⟨own, out⟩, dfs⟩ := s
  dsimp only at hd ho h4 h5 r4 r5
  subst ho
  refine fin_ret1 (own := own) (vs := [.sl es, vi k]) hd (D137n own oM) ?_ rfl rfl
  simp (maxSteps := 2000000) (disch := omega) only [SA, ofValue, ofCell, bin, intBin, un, idx, Go.Ev.builtin, calleeOf, V.isNilS, V.depthOk, depth1, V.ok1, V.isAgg, V.cells, isConst, Nat.reduceBEq, Nat.reduceEqDiff, ↓reduceIte, Nat.reduceLeDiff, Nat.reduceAdd, Nat.reduceMul, Nat.reduceSub, Nat.reduceLT, Int.reduceAdd, Int.reduceSub, Int.reduceMul, Int.reduceLT, Int.reduceLE, Int.reduceToNat, Int.reduceNeg, reduceIte, reduceCtorEq, SPx, Tryd.results99, resVars, resVar, h4, h5, r4, r5]
theorem fin99p {oM : Go.Ev.Rows} {s : St} {x4 x5 : V} {k : Int} (hd : s.dfs = [(137, [.ptr ⟨1, 4, 0, 1⟩ 0 0, .ptr ⟨1, 5, 0, 1⟩ 0 0])]) (ho : s.m.out = [oM]) (h4 : s.t.get 4 = .ptr ⟨1, 4, 0, 1⟩ 0 0) (h5 : s.t.get 5 = .ptr ⟨1, 5, 0, 1⟩ 0 0)
    (r4 : s.m.row ⟨1, 4, 0, 1⟩ = some ⟨1, 45, false, false, [x4]⟩) (r5 : s.m.row ⟨1, 5, 0, 1⟩ = some ⟨1, 23, false, false, [x5]⟩) :
    finQ X Tryd.f99 (.ret (.tup [.sl [], vi k]), [oM]) (.panic (.ifc 23 (vi k))) s := by
  obtain ⟨t, ⟨own, out⟩, dfs⟩ := s
  dsimp only at hd ho h4 h5 r4 r5
  subst ho
  refine fin_panic1 (vs := [.rs ⟨1, 4, 500, (own.get 4 500).g + 1⟩ 0 0 0, vi k]) hd (D137p own oM k x4 x5 r4 r5) ?_ ?_ ?_
  · rw [← set_own _ [oM] 1 5 0 _ rfl, ← set_own _ [oM] 1 4 0 _ rfl, ← set_own _ [oM] 1 4 500 _ rfl]
    simp (maxSteps := 2000000) (disch := omega) only [SA, ofValue, ofCell, bin, intBin, un, idx, Go.Ev.builtin, calleeOf, V.isNilS, V.depthOk, depth1, V.ok1, V.isAgg, V.cells, isConst, Nat.reduceBEq, Nat.reduceEqDiff, ↓reduceIte, Nat.reduceLeDiff, Nat.reduceAdd, Nat.reduceMul, Nat.reduceSub, Nat.reduceLT, Int.reduceAdd, Int.reduceSub, Int.reduceMul, Int.reduceLT, Int.reduceLE, Int.reduceToNat, Int.reduceNeg, reduceIte, reduceCtorEq, SPx, Tryd.results99, resVars, resVar, h4, h5, r4, r5]
  · rw [← set_own _ [oM] 1 5 0 _ rfl, ← set_own _ [oM] 1 4 0 _ rfl, ← set_own _ [oM] 1 4 500 _ rfl]
    simp (maxSteps := 2000000) (disch := omega) only [SA, ofValue, ofCell, bin, intBin, un, idx, Go.Ev.builtin, calleeOf, V.isNilS, V.depthOk, depth1, V.ok1, V.isAgg, V.cells, isConst, Nat.reduceBEq, Nat.reduceEqDiff, ↓reduceIte, Nat.reduceLeDiff, Nat.reduceAdd, Nat.reduceMul, Nat.reduceSub, Nat.reduceLT, Int.reduceAdd, Int.reduceSub, Int.reduceMul, Int.reduceLT, Int.reduceLE, Int.reduceToNat, Int.reduceNeg, reduceIte, reduceCtorEq, SPx, SAx, resOf, X_own, mv_tup, mv2s_cons, mv2s_nil, mv2_int, cut, List.take_zero, List.drop_zero]
  · exact frzR_own (fun r ty off len hm => by
      simp [resOf, leaves, leaves2] at hm
      rw [hm.1]; rfl)
theorem M99 (g : FuncId) (cap : List V) (oM : Go.Ev.Rows) (r : Res) (hcap : cap.any V.loose = true) (hco : callOk Tryd.prog g = true) (hsr : scalarRes Tryd.prog g = false) (hg : ∀ own, AnsAt X g cap [own, oM] r)
    (R : Res) (hR : (∃ es, r = .ret (.sl es) ∧ R = .ret (.tup [.sl es, vi 0])) ∨ (∃ k, r = .panic (.ifc 23 (vi k)) ∧ R = .ret (.tup [.sl [], vi k]))) :
    AnsAt X 99 [vi 0, .fn g [] cap] [oM] R := by
  have hne : cap.isEmpty = false := by cases cap with | nil => simp at hcap | cons _ _ => rfl
  refine ⟨rfl, by simp [V.refs, V.loose, hne], fun v hv => ?_, ?_⟩
  · rcases hR with ⟨es, _, rfl⟩ | ⟨k, _, rfl⟩
    · injection hv with hv; subst hv; rfl
    · injection hv with hv; subst hv; rfl
  refine runsAt_of (X := X) (fn := Tryd.f99) Tryd.func99 rfl ⟨by decide +kernel, Nat.le_of_ble_eq_true rfl⟩ ?_
  have hd : (enter [vi 0, V.fn g [] cap] [oM]).dfs = [] := rfl
  have h0 : (enter [vi 0, V.fn g [] cap] [oM]).t.get 0 = vi 0 := rfl
  have h1 : (enter [vi 0, V.fn g [] cap] [oM]).t.get 1 = .fn g [] cap := rfl
  have hm : (enter [vi 0, V.fn g [] cap] [oM]).m = ⟨.nil, [oM]⟩ := rfl
  generalize enter [vi 0, V.fn g [] cap] [oM] = s at *
  refine gPA (aI @h0 <|aI @h1 <|@hm) ?_
  refine cnd (fun h => ?_) (fun h => ?_)
  · simp at h
  refine gPA (aI @h0 <|aI @h1 <|@hm) ?_
  have key : ∀ (m : Mem) (dst : Nat) (K KP : V → Mem → Prop), m.out = [oM] → CallQ X g cap m dst K KP = (match r with | .ret v => K v m | .panic v => KP v m) := by
    intro m dst K KP hmo
    have hh := hg m.own
    rw [← hmo] at hh
    cases r with
    | ret v => exact propext hh.iff
    | panic v => exact propext hh.panics
  with_reducible refine W_region_k ?_
  intro K hK
  simp (maxSteps := 2000000) (disch := omega) only [SA, ofValue, ofCell, bin, intBin, un, idx, Go.Ev.builtin, calleeOf, V.isNilS, V.depthOk, depth1, V.ok1, V.isAgg, V.cells, isConst, Nat.reduceBEq, Nat.reduceEqDiff, ↓reduceIte, Nat.reduceLeDiff, Nat.reduceAdd, Nat.reduceMul, Nat.reduceSub, Nat.reduceLT, Int.reduceAdd, Int.reduceSub, Int.reduceMul, Int.reduceLT, Int.reduceLE, Int.reduceToNat, Int.reduceNeg, reduceIte, reduceCtorEq, SPx, SAx, h0, h1, hm, hd, hco, hsr]
  rw [key _ _ _ _ rfl]
  rcases hR with ⟨es, rfl, rfl⟩ | ⟨k, rfl, rfl⟩
  · simp (maxSteps := 2000000) (disch := omega) only [SA, ofValue, ofCell, bin, intBin, un, idx, Go.Ev.builtin, calleeOf, V.isNilS, V.depthOk, depth1, V.ok1, V.isAgg, V.cells, isConst, Nat.reduceBEq, Nat.reduceEqDiff, ↓reduceIte, Nat.reduceLeDiff, Nat.reduceAdd, Nat.reduceMul, Nat.reduceSub, Nat.reduceLT, Int.reduceAdd, Int.reduceSub, Int.reduceMul, Int.reduceLT, Int.reduceLE, Int.reduceToNat, Int.reduceNeg, reduceIte, reduceCtorEq, SPx, SAx, SSx, appendTo, elemsOf]
    refine hK _ _ ?_
    clear hK K
    refine gP @Nat.zero_add ?_
    refine fin99 (es := es) (k := 0) ?_ ?_ ?_ ?_ ?_ ?_
    all_goals (try refine f0 @hd ?_);all_goals try exact True.intro
    all_goals first | rfl | simp [Mem.new, Mem.set]
  · simp (maxSteps := 2000000) (disch := omega) only [SA, ofValue, ofCell, bin, intBin, un, idx, Go.Ev.builtin, calleeOf, V.isNilS, V.depthOk, depth1, V.ok1, V.isAgg, V.cells, isConst, Nat.reduceBEq, Nat.reduceEqDiff, ↓reduceIte, Nat.reduceLeDiff, Nat.reduceAdd, Nat.reduceMul, Nat.reduceSub, Nat.reduceLT, Int.reduceAdd, Int.reduceSub, Int.reduceMul, Int.reduceLT, Int.reduceLE, Int.reduceToNat, Int.reduceNeg, reduceIte, reduceCtorEq, SPx, SAx, SSx, appendTo, elemsOf]
    refine hK _ _ ?_
    clear hK K
    refine gP @Nat.zero_add ?_
    refine fin99p (k := k) (x4 := .rs ⟨1, 4, 1, 1⟩ 0 0 0) (x5 := vi 0) ?_ ?_ ?_ ?_ ?_ ?_
    all_goals (try refine f0 @hd ?_);all_goals try exact True.intro
    all_goals first | rfl | simp [Mem.new, Mem.set]
theorem M99e (e : Int) (he : e ≠ 0) (g : FuncId) (cap : List V) (oM : Go.Ev.Rows) (hcap : cap.any V.loose = true) : AnsAt X 99 [vi e, .fn g [] cap] [oM] (.ret (.tup [.sl [], vi e])) := by
  have hne : cap.isEmpty = false := by cases cap with | nil => simp at hcap | cons _ _ => rfl
  refine ⟨rfl, by simp [V.refs, V.loose, hne], fun v hv => ?_, ?_⟩
  · injection hv with hv; subst hv; rfl
  refine runsAt_of (X := X) (fn := Tryd.f99) Tryd.func99 rfl ⟨by decide +kernel, Nat.le_of_ble_eq_true rfl⟩ ?_
  have hd : (enter [vi e, V.fn g [] cap] [oM]).dfs = [] := rfl
  have h0 : (enter [vi e, V.fn g [] cap] [oM]).t.get 0 = vi e := rfl
  have h1 : (enter [vi e, V.fn g [] cap] [oM]).t.get 1 = .fn g [] cap := rfl
  have hm : (enter [vi e, V.fn g [] cap] [oM]).m = ⟨.nil, [oM]⟩ := rfl
  generalize enter [vi e, V.fn g [] cap] [oM] = s at *
  refine gPA (aI @h0 <|aI @h1 <|@hm) ?_
  refine cnd (fun h => ?_) (fun h => ?_)
  · refine gPA (aI @h0 <|aI @h1 <|@hm) ?_
    refine fin_ret (X := X) (fn := Tryd.f99) (vs := [.rs ⟨1, 4, 1, 1⟩ 0 0 0, vi e]) hd ?_ ?_ ?_
    · simp (maxSteps := 2000000) (disch := omega) only [SA, ofValue, ofCell, bin, intBin, un, idx, Go.Ev.builtin, calleeOf, V.isNilS, V.depthOk, depth1, V.ok1, V.isAgg, V.cells, isConst, Nat.reduceBEq, Nat.reduceEqDiff, ↓reduceIte, Nat.reduceLeDiff, Nat.reduceAdd, Nat.reduceMul, Nat.reduceSub, Nat.reduceLT, Int.reduceAdd, Int.reduceSub, Int.reduceMul, Int.reduceLT, Int.reduceLE, Int.reduceToNat, Int.reduceNeg, reduceIte, reduceCtorEq, SPx, SAx, Tryd.results99, resVars, resVar]
    · simp (maxSteps := 2000000) (disch := omega) only [SA, ofValue, ofCell, bin, intBin, un, idx, Go.Ev.builtin, calleeOf, V.isNilS, V.depthOk, depth1, V.ok1, V.isAgg, V.cells, isConst, Nat.reduceBEq, Nat.reduceEqDiff, ↓reduceIte, Nat.reduceLeDiff, Nat.reduceAdd, Nat.reduceMul, Nat.reduceSub, Nat.reduceLT, Int.reduceAdd, Int.reduceSub, Int.reduceMul, Int.reduceLT, Int.reduceLE, Int.reduceToNat, Int.reduceNeg, reduceIte, reduceCtorEq, SPx, SAx, resOf, X_own, mv_tup, mv2s_cons, mv2s_nil, mv2_int, cut, List.take_zero, List.drop_zero]
    · refine (frzR_own (fun r ty off len hm => ?_)).trans ?_
      · simp [resOf, leaves, leaves2] at hm
        rw [hm.1]; rfl
      · rfl
  · exact absurd (by simpa using h) he
end Go.Proofs.YtpocekfifokndaaDoor
namespace Go.Proofs.YtpocekfifokndaaDoor
open Go Go.Ev Go.Pl
set_option maxRecDepth 100000
set_option maxHeartbeats 4000000
def HeldD (m : Mem) (d s i : Nat) (T : TypeId) (v : V) (L : List V) : Prop := ∃ g ty, v = .rs ⟨d, s, i, g⟩ ty 0 L.length ∧ m.row ⟨d, s, i, g⟩ = some ⟨g, ty, true, false, L⟩ ∧ (ty = T ∨ ty = 0 ∧ L.length = 0)
def stepL (w f : Nat) : List Nat :=
  if h : 1 < f ∧ 0 < w then
    if hw : (regS (zi (digB f))).2.2.2 = 0 ∧ w % f = 0 then f :: stepL (w / f) f else stepL w (f - 1)
  else []
termination_by w + f
decreasing_by
  · have := Nat.div_lt_self h.2 h.1; omega
  · omega
theorem stepL_yes {w f : Nat} (hf : 1 < f) (hw : 0 < w) (h : (regS (zi (digB f))).2.2.2 = 0 ∧ w % f = 0) : stepL w f = f :: stepL (w / f) f := by rw [stepL, dif_pos ⟨hf, hw⟩, dif_pos h]
theorem stepL_no {w f : Nat} (hf : 1 < f) (hw : 0 < w) (h : ¬ ((regS (zi (digB f))).2.2.2 = 0 ∧ w % f = 0)) : stepL w f = stepL w (f - 1) := by rw [stepL, dif_pos ⟨hf, hw⟩, dif_neg h]
theorem stepL_end {w f : Nat} (hf : ¬ 1 < f) : stepL w f = [] := by rw [stepL, dif_neg (fun e => hf e.1)]
def pairV (f : Nat) : V := .agg [.sl (nats (digB f)), .sl (nats (recS (zi (digB f))).1)]
def pairsV (l : List Nat) : List V := l.map pairV
theorem pairsV_length (l : List Nat) : (pairsV l).length = l.length := by simp [pairsV]
theorem pairsV_snoc (l : List Nat) (f : Nat) : pairsV l ++ [.agg [.sl (nats (digB f)), .sl (nats (recS (zi (digB f))).1)]] = pairsV (l ++ [f]) := by simp [pairsV, pairV]
theorem cut_pairs (l : List Nat) : cut (pairsV l) 0 l.length = pairsV l := by unfold cut; rw [List.drop_zero, List.take_of_length_le (by rw [pairsV_length]; exact Nat.le_refl _)]
theorem P100 (l : List Nat) (hl : ∀ d ∈ l, d < 60) (hlen : l.length ≤ 16) (N : Nat) (hNe : numL l.reverse = N) (hN : 0 < N) (o1 oM : Go.Ev.Rows)
    (hA : (⟨oM, []⟩ : Mem).row ⟨0, 1, 0, 1⟩ = some ⟨1, 22, false, false, [.sl (nats l)]⟩) :
    AnsAt X 100 [.ptr ⟨0, 1, 0, 1⟩ 0 0] [o1, oM] (.ret (.sl (pairsV (stepL N 81)))) := by
  refine ⟨rfl, rfl, fun v hv => ?_, ?_⟩
  · injection hv with hv; subst hv; rfl
  refine runsAt_of (X := X) (fn := Tryd.f100) Tryd.func100 rfl ⟨by decide +kernel, Nat.le_of_ble_eq_true rfl⟩ ?_
  have hd : (enter [V.ptr ⟨0, 1, 0, 1⟩ 0 0] [o1, oM]).dfs = [] := rfl
  have h0 : (enter [V.ptr ⟨0, 1, 0, 1⟩ 0 0] [o1, oM]).t.get 0 = .ptr ⟨0, 1, 0, 1⟩ 0 0 := rfl
  have hm : (enter [V.ptr ⟨0, 1, 0, 1⟩ 0 0] [o1, oM]).m = ⟨.nil, [o1, oM]⟩ := rfl
  generalize enter [V.ptr ⟨0, 1, 0, 1⟩ 0 0] [o1, oM] = s at *
  have hA' : (⟨.nil, [o1, oM]⟩ : Mem).row ⟨0, 1, 0, 1⟩ = some ⟨1, 22, false, false, [.sl (nats l)]⟩ := by rw [row_outer _ _ _ _ (by simp), row_outer _ _ _ _ (by simp), hA]
  have hNb : N < 60 ^ 16 := by
    have := Go.Pl.num_lt (l := l.reverse) (fun d hd => hl d (List.mem_reverse.1 hd))
    rw [List.length_reverse, hNe] at this
    exact lt_pow_mono this hlen
  have q1 := P86 l 0 72 rfl hl (by omega)
  rw [hNe] at q1
  refine gPAW (aI @h0 <|aI @hm <|aI @hA' <|aI @co86 <|aI @sr86 <|@q1.iffx) ?_
  refine W_loopg (fun (x : Nat × Nat × List Nat) s => s.dfs = [] ∧ s.m.out = [o1, oM] ∧ s.t.get 3 = .ptr ⟨2, 3, 0, 1⟩ 0 0 ∧ s.t.get 4 = vn x.2.1 ∧ HeldD s.m 2 2 1 69 (s.t.get 2) (pairsV x.2.2) ∧
    s.m.row ⟨2, 3, 0, 1⟩ = some ⟨1, 100, false, false, [wv (x.1 * 60 ^ 72)]⟩ ∧ 0 < x.1 ∧ x.1 * 2 ^ x.2.2.length ≤ N ∧ x.2.1 ≤ 81 ∧ 0 < x.2.1 ∧ stepL N 81 = x.2.2 ++ stepL x.1 x.2.1) (fun x => x.1 + x.2.1) (N, 81, []) ?_ ?_
  · refine ⟨hd, ?_, ?_, ?_, ⟨1, 0, ?_, ?_, .inr ⟨rfl, rfl⟩⟩, ?_, hN, by simp, Nat.le_refl _, Nat.zero_lt_succ _, rfl⟩
    all_goals (try refine fW @hm ?_);all_goals try exact True.intro
    all_goals rfl
  clear hd h0 hm hA' q1 hA
  rintro ⟨w, f, acc⟩ s ⟨hd, ho, h3, h4, ⟨g, ty, h2, r2, hty⟩, r3, hw, hwN, hf81, hf0, hst⟩
  dsimp only at h4 h2 r2 hty r3 hw hwN hf81 hf0 hst
  rw [pairsV_length] at h2 hty
  refine gP @h4 ?_
  refine cnd (fun h => ?_) (fun h => ?_)
  · have h := of_decide_eq_true h
    have hf1 : 1 < f := by omega
    clear h
    have hwle : w ≤ N := Nat.le_trans (Nat.le_mul_of_pos_right _ (Nat.pow_pos (by decide))) hwN
    have q1 := Q101 w f (Nat.lt_of_le_of_lt hwle (Nat.lt_trans hNb (by decide))) (by omega) (by omega)
    have q2 := P88 f (by omega)
    have q3 := P81 (f * 60 ^ 72) (by
      calc f * 60 ^ 72 < 60 ^ 16 * 60 ^ 72 := Nat.mul_lt_mul_of_pos_right (by omega) (by decide)
        _ ≤ 60 ^ 168 := by decide)
    rw [placeRes_whole (by omega)] at q3
    have q4 := P31 (zi (digB f))
    rw [← nats_zi] at q4
    have hrw : (regS (zi (digB f))).2.2.2 = (regS (zi (digB f))).2.2.2 := rfl
    generalize hre : (regS (zi (digB f))).2.2.2 = e at q4 hrw
    by_cases c : e = 0 ∧ w % f = 0
    · obtain ⟨c1, c2⟩ := c
      have e1 : (e != 0) = false := by rw [c1]; rfl
      have e2 : (((w % f : Nat) : Int) != 0) = false := by rw [c2]; rfl
      have q5 := P32 (zi (digB f))
      rw [← nats_zi] at q5
      have hdiv : 0 < w / f := Nat.div_pos (Nat.le_of_dvd hw (Nat.dvd_of_mod_eq_zero c2)) (by omega)
      have hpow : w / f * 2 ^ (acc ++ [f]).length ≤ N := by
        have h1 : w / f * 2 ≤ w := Nat.le_trans (Nat.mul_le_mul_left _ hf1) (Nat.div_mul_le_self w f)
        have h2 := Nat.mul_le_mul_right (2 ^ acc.length) h1
        rw [List.length_append, List.length_singleton, Nat.pow_succ, Nat.mul_comm (2 ^ _) 2, ← Nat.mul_assoc]
        omega
      have hcnt : acc.length < 100 := by
        have h1 : 2 ^ acc.length ≤ N := Nat.le_trans (Nat.le_mul_of_pos_left _ hw) hwN
        exact Nat.lt_of_lt_of_le ((Nat.pow_lt_pow_iff_right (a := 2) (by decide)).1 (Nat.lt_of_le_of_lt h1 (Nat.lt_trans hNb (by decide : (60 : Nat) ^ 16 < 2 ^ 100)))) (Nat.le_refl _)
      rw [stepL_yes hf1 hw ⟨by rw [hre]; exact c1, c2⟩] at hst
      have hlt : w / f + f < w + f := by have := Nat.div_lt_self hw hf1; omega
      clear hre hrw hwN hwle hNb hNe hl
      refine gPASW (aI @h2 <|aI @h3 <|aI @h4 <|aI @ho <|aI @r2 <|aI @r3 <|aI @hty <|aI @co101 <|aI @sr101 <|aI @co88 <|aI @sr88 <|aI @co81 <|aI @sr81 <|aI @co31 <|aI @sr31 <|aI @co32 <|aI @sr32 <|aI @q1.iffx <|aI @q2.iffx <|aI @q3.iffx <|aI @q4.iffx <|aI @q5.iffx <|aI @e1 <|aI @e2 <|aI @pairsV_length <|aI @cut_pairs <|@pairsV_snoc) ?_
      refine cnd (fun h => ?_) (fun h => ?_)
      · simp at h
      refine gPASW (aI @h2 <|aI @h3 <|aI @h4 <|aI @ho <|aI @r2 <|aI @r3 <|aI @hty <|aI @co32 <|aI @sr32 <|aI @q5.iffx <|aI @pairsV_length <|aI @cut_pairs <|@pairsV_snoc) ?_
      refine ⟨(w / f, f, acc ++ [f]), ⟨hd, ?_, ?_, ?_, ⟨g + 1, 69, ?_, ?_, .inl rfl⟩, ?_, hdiv, hpow, hf81, hf0, ?_⟩, hlt⟩
      all_goals (try refine fSW (aI @h2 <|aI @h3 <|aI @h4 <|aI @r2 <|aI @r3 <|aI @ho <|@pairsV_length) ?_);all_goals try exact True.intro
      · simp [Mem.new, Mem.set, ho]
      · rw [hst]; simp
    · rw [stepL_no hf1 hw (by rw [hre]; exact c)] at hst
      have hlt : w + (f - 1) < w + f := by omega
      have hm1 : f - 1 ≤ 81 ∧ 0 < f - 1 := by omega
      have e4 : V.int .i64 (wr .i64 ((f : Int) - 1)) = vn (f - 1) := by rw [wr_i64 (by omega) (by omega)]; congr 1; omega
      by_cases he : e = 0
      · have e1 : (e != 0) = false := by rw [he]; rfl
        have e2 : (((w % f : Nat) : Int) != 0) = true := by
          have h2 : w % f ≠ 0 := fun x => c ⟨he, x⟩
          rw [bne_iff_ne]; omega
        clear hre hrw hwle hNb hNe hl c
        refine gPASW (aI @h2 <|aI @h3 <|aI @h4 <|aI @ho <|aI @r2 <|aI @r3 <|aI @hty <|aI @co101 <|aI @sr101 <|aI @co88 <|aI @sr88 <|aI @co81 <|aI @sr81 <|aI @co31 <|aI @sr31 <|aI @q1.iffx <|aI @q2.iffx <|aI @q3.iffx <|aI @q4.iffx <|aI @e1 <|@e2) ?_
        refine cnd (fun h => ?_) (fun h => ?_)
        · refine gPASW (aI @h2 <|aI @h3 <|aI @h4 <|aI @ho <|aI @r2 <|aI @r3 <|@e4) ?_
          refine ⟨(w, f - 1, acc), ⟨hd, ?_, ?_, ?_, ⟨g, ty, ?_, ?_, by rw [pairsV_length]; exact hty⟩, ?_, hw, hwN, hm1.1, hm1.2, hst⟩, hlt⟩
          all_goals (try refine fSW (aI @h2 <|aI @h3 <|aI @h4 <|aI @r2 <|aI @r3 <|aI @ho <|@pairsV_length) ?_);all_goals try exact True.intro
          simp [Mem.new, Mem.set, ho]
        · simp at h
      · have e1 : (e != 0) = true := by simpa using he
        clear hre hrw hwle hNb hNe hl c
        refine gPASW (aI @h2 <|aI @h3 <|aI @h4 <|aI @ho <|aI @r2 <|aI @r3 <|aI @hty <|aI @co101 <|aI @sr101 <|aI @co88 <|aI @sr88 <|aI @co81 <|aI @sr81 <|aI @co31 <|aI @sr31 <|aI @q1.iffx <|aI @q2.iffx <|aI @q3.iffx <|aI @q4.iffx <|@e1) ?_
        refine cnd (fun h => ?_) (fun h => ?_)
        · refine gPASW (aI @h2 <|aI @h3 <|aI @h4 <|aI @ho <|aI @r2 <|aI @r3 <|@e4) ?_
          refine ⟨(w, f - 1, acc), ⟨hd, ?_, ?_, ?_, ⟨g, ty, ?_, ?_, by rw [pairsV_length]; exact hty⟩, ?_, hw, hwN, hm1.1, hm1.2, hst⟩, hlt⟩
          all_goals (try refine fSW (aI @h2 <|aI @h3 <|aI @h4 <|aI @r2 <|aI @r3 <|aI @ho <|@pairsV_length) ?_);all_goals try exact True.intro
          simp [Mem.new, Mem.set, ho]
        · simp at h
  · have h := of_decide_eq_false h
    have hf1 : ¬ 1 < f := by omega
    rw [stepL_end hf1, List.append_nil] at hst
    rw [hst]
    refine gPAS (aI @h2 <|aI @r2 <|@ho) ?_
    refine fin_ret (X := X) (fn := Tryd.f100) (vs := [.rs ⟨2, 2, 1, g⟩ ty 0 acc.length]) hd ?_ ?_ ?_
    · simp (maxSteps := 2000000) (disch := omega) only [SA, ofValue, ofCell, bin, intBin, un, idx, Go.Ev.builtin, calleeOf, V.isNilS, V.depthOk, depth1, V.ok1, V.isAgg, V.cells, isConst, Nat.reduceBEq, Nat.reduceEqDiff, ↓reduceIte, Nat.reduceLeDiff, Nat.reduceAdd, Nat.reduceMul, Nat.reduceSub, Nat.reduceLT, Int.reduceAdd, Int.reduceSub, Int.reduceMul, Int.reduceLT, Int.reduceLE, Int.reduceToNat, Int.reduceNeg, reduceIte, reduceCtorEq, SPx, Tryd.results100, resVars, resVar]
    · simp (maxSteps := 2000000) (disch := omega) only [SA, ofValue, ofCell, bin, intBin, un, idx, Go.Ev.builtin, calleeOf, V.isNilS, V.depthOk, depth1, V.ok1, V.isAgg, V.cells, isConst, Nat.reduceBEq, Nat.reduceEqDiff, ↓reduceIte, Nat.reduceLeDiff, Nat.reduceAdd, Nat.reduceMul, Nat.reduceSub, Nat.reduceLT, Int.reduceAdd, Int.reduceSub, Int.reduceMul, Int.reduceLT, Int.reduceLE, Int.reduceToNat, Int.reduceNeg, reduceIte, reduceCtorEq, SPx, SAx, resOf, X_own, r2, pairsV_length, cut_pairs]
    · refine (frzR_own (fun r ty off len hm => ?_)).trans ho
      simp [resOf, leaves, leaves2] at hm
      rw [hm.1, ho]; rfl
end Go.Proofs.YtpocekfifokndaaDoor
namespace Go.Proofs.YtpocekfifokndaaDoor
open Go Go.Ev Go.Pl
set_option maxRecDepth 100000
set_option maxHeartbeats 4000000
def textB (a : List Nat) : List UInt8 := joinB [58] (a.map decB)
def strsV (l : List (List UInt8)) : List V := l.map V.str
theorem strsV_length (l : List (List UInt8)) : (strsV l).length = l.length := by simp [strsV]
theorem strsV_snoc (l : List (List UInt8)) (s : List UInt8) : strsV l ++ [.str s] = strsV (l ++ [s]) := by simp [strsV]
theorem cut_strs (l : List (List UInt8)) : cut (strsV l) 0 l.length = strsV l := by unfold cut; rw [List.drop_zero, List.take_of_length_le (by rw [strsV_length]; exact Nat.le_refl _)]
theorem strsOf_strsV : ∀ l : List (List UInt8), strsOf (strsV l) = some l
  | [] => rfl
  | s :: l => by
    show (strsOf (strsV l)).map (s :: ·) = _
    rw [strsOf_strsV l]; rfl
theorem decB_len (n : Nat) : (decB n).length ≤ 2 := by unfold decB; split <;> simp
theorem joinB_len : ∀ l : List Nat, (joinB [58] (l.map decB)).length ≤ 3 * l.length
  | [] => Nat.zero_le _
  | [x] => by
    have := decB_len x
    simp only [List.map_cons, List.map_nil, joinB, List.length_singleton]; omega
  | x :: y :: r => by
    have h := joinB_len (y :: r)
    have := decB_len x
    rw [List.map_cons, List.map_cons, joinB, ← List.map_cons, List.length_append, List.length_append, List.length_cons]
    · simp only [List.length_cons, List.length_nil] at h ⊢
      omega
    · intro e; cases e
theorem ext130 {l : List Nat} (hl : l.length ≤ 1000) {m : Mem} {dst : Nat} {K KP : V → Mem → Prop} : CallQ X 130 [.sl (strsV (l.map decB)), .str [58]] m dst K KP ↔ K (.str (textB l)) m :=
  ext_iff (by
    have h1 := joinB_len l
    show extF 130 [.sl (strsV (l.map decB)), .str [58]] = some (.str (textB l))
    unfold extF
    rw [if_neg (by decide), if_pos rfl]
    simp only [strsOf_strsV]
    rw [if_pos ⟨by rw [List.length_map]; omega, by omega⟩]
    rfl) rfl (fun _ => rfl) rfl
def textS (a : List Int) : List UInt8 × Int := if chk a ≠ 0 then ([], chk a) else if a.length = 0 then ([48], 0) else (textB (natsOf a), 0)
theorem P70 (a : List Int) : Ans X 70 [.sl (ints a)] (.ret (.tup [.str (textS a).1, vi (textS a).2])) := by
  refine call_of_X (fn := Tryd.f70) 1 Tryd.func70 rfl (by decide +kernel) rfl ?_ ?_ ?_ ?_
  · rfl
  · exact fun _ => rfl
  · intro v hv; injection hv with hv; subst hv; rfl
  intro s hs hd ho
  have hm : s.m = ⟨.nil, []⟩ := by subst hs; rfl
  have h0 : s.t.get 0 = .sl (ints a) := by subst hs; rfl
  clear hs
  refine gP (aI @h0 <|aI @hm <|aI @co28 <|aI @sr28 <|((P28 a).iffx)) ?_
  refine cnd (fun h => ?_) (fun h => ?_)
  · have h : chk a ≠ 0 := by simpa using h
    refine gP @Nat.zero_add ?_
    refine rP hd @Tryd.results70 ?_
    try exact True.intro
    rw [textS, if_pos h]
  have hc : chk a = 0 := by simpa using h
  rw [textS, if_neg (fun e => e hc)]
  clear h
  by_cases hl : a.length = 0
  · have e1 : (((a.length : Nat) : Int) == 0) = true := by rw [hl]; rfl
    rw [if_pos hl]
    refine gP (aI @h0 <|aI @ints_length <|@e1) ?_
    refine cnd (fun h => ?_) (fun h => ?_)
    · refine gP @Nat.zero_add ?_
      refine rP hd @Tryd.results70 ?_
      try exact True.intro
    · simp at h
  have e1 : (((a.length : Nat) : Int) == 0) = false := by rw [beq_eq_false_iff_ne]; omega
  rw [if_neg hl]
  refine gP (aI @h0 <|aI @ints_length <|@e1) ?_
  refine cnd (fun h => ?_) (fun h => ?_)
  · simp at h
  clear h
  obtain ⟨b1, b2, b3, b4, _⟩ := chk_ok hc
  rw [b1] at h0
  generalize natsOf a = l at *
  rw [← b4] at b3
  clear b1 hc hl e1 b4
  refine gPS (aI @h0 <|aI @hm <|@nats_length) ?_
  refine W_loopg (fun (k : Nat) s => s.dfs = [] ∧ s.m.out.length = 0 ∧ s.t.get 16 = .sl (nats l) ∧ s.t.get 17 = vn l.length ∧ s.t.get 18 = vn k ∧ HeldD s.m 0 5 1 9 (s.t.get 5) (strsV ((l.take k).map decB)) ∧ k ≤ l.length) (fun k => l.length - k) 0 ?_ ?_
  · refine ⟨hd, ?_, ?_, ?_, ?_, ⟨1, 0, ?_, ?_, .inr ⟨rfl, rfl⟩⟩, Nat.zero_le _⟩
    all_goals (try refine fS (aI @h0 <|@hm) ?_);all_goals try exact True.intro
    all_goals rfl
  clear hd h0 hm ho
  rintro k s ⟨hd, ho, h16, h17, h18, ⟨g, ty, h5, r5, hty⟩, hk⟩
  rw [strsV_length, List.length_map, List.length_take, Nat.min_eq_left hk] at h5 hty
  refine gP (aI @h17 <|@h18) ?_
  refine cnd (fun h => ?_) (fun h => ?_)
  · have hk' : k < l.length := by have := of_decide_eq_true h; omega
    clear h
    obtain ⟨x, hx⟩ : ∃ x, l[k]? = some x := ⟨l[k], by simp⟩
    have hx60 := b2 x (List.mem_of_getElem? hx)
    have gx : (nats l)[k]? = some (vn x) := by rw [nats_get?, hx]; rfl
    have ht : (l.take (k + 1)).map decB = (l.take k).map decB ++ [decB x] := by rw [List.take_add_one, hx]; simp
    have q := P129 x (by omega)
    have i1 : (k : Int) < (l.length : Int) := by omega
    have i2 : (0 : Int) ≤ (k : Int) := by omega
    have e1 : V.int .i64 (wr .i64 ((k : Int) + 1)) = vn (k + 1) := by rw [wr_i64 (by omega) (by omega)]; rfl
    have hcut : cut (strsV ((l.take k).map decB)) 0 k = strsV ((l.take k).map decB) := by
      have := cut_strs ((l.take k).map decB)
      rwa [List.length_map, List.length_take, Nat.min_eq_left hk] at this
    have hlen : (strsV ((l.take k).map decB)).length = k := by rw [strsV_length, List.length_map, List.length_take, Nat.min_eq_left hk]
    have hlen1 : (strsV ((l.take k).map decB ++ [decB x])).length = k + 1 := by rw [strsV_length, List.length_append, List.length_map, List.length_take, Nat.min_eq_left hk]; rfl
    generalize (l.take k).map decB = T at *
    have hk16 : (k + 1) * 18 ≤ 1099511627776 := by omega
    clear hx
    refine gPAS (aI @h5 <|aI @h16 <|aI @h18 <|aI @r5 <|aI @ho <|aI @hty <|aI @gx <|aI @i1 <|aI @i2 <|aI @hk' <|aI @nats_length <|aI @co129 <|aI @sr129 <|aI @q.iffx <|aI @hlen <|aI @hcut <|aI @strsV_snoc <|aI @hk16 <|@e1) ?_
    refine ⟨k + 1, ⟨hd, ?_, ?_, ?_, ?_, ⟨g + 1, 9, ?_, ?_, .inl rfl⟩, hk'⟩, by omega⟩
    all_goals (try refine fS (aI @h5 <|aI @h16 <|aI @h17 <|aI @h18 <|aI @r5 <|aI @ho <|aI @ht <|aI @hlen <|@hlen1) ?_);all_goals try exact True.intro
  · have hk' : k = l.length := by have := of_decide_eq_false h; omega
    subst hk'
    clear h
    rw [List.take_length] at r5
    have hx : ∀ (m : Mem) (dst : Nat) (K KP : V → Mem → Prop), CallQ X 130 [.sl (strsV (l.map decB)), .str [58]] m dst K KP ↔ K (.str (textB l)) m := fun _ _ _ _ => ext130 (by omega)
    have hlen : (strsV (l.map decB)).length = l.length := by rw [strsV_length, List.length_map]
    have hcut : cut (strsV (l.map decB)) 0 l.length = strsV (l.map decB) := by
      have := cut_strs (l.map decB)
      rwa [List.length_map] at this
    refine gPAS (aI @h5 <|aI @r5 <|aI @ho <|aI @hlen <|aI @hcut <|aI @co130 <|aI @sr130 <|@hx) ?_
    refine rP hd @Tryd.results70 ?_
    try exact True.intro
end Go.Proofs.YtpocekfifokndaaDoor
