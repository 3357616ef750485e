/- Part 6 of the proof: an evaluator of the program, proved sound against the model, and what the functions of the program compute. No condition but those each theorem states. -/
import Derived.Test.YtpocekfifokndaaDoorG2
import Derived.Test.YtpocekfifokndaaDoorG3
import Derived.Test.YtpocekfifokndaaDoorG1
set_option linter.unusedSimpArgs false
set_option linter.unusedVariables false
namespace Go.Proofs.YtpocekfifokndaaDoor
open Go Go.Ev Go.Pl
set_option maxRecDepth 100000
set_option maxHeartbeats 4000000
def ofS (n : Int) : List Nat × Int := if n < 0 ∨ 1099511627776 < n then ([], 8) else (digB n.toNat, 0)
theorem P36 (n : Int) : Ans X 36 [vi n] (.ret (.tup [.sl (nats (ofS n).1), vi (ofS n).2])) := by
  refine call_of_X (fn := Tryd.f36) 1 Tryd.func36 rfl (by decide +kernel) rfl ?_ ?_ ?_ ?_
  · rfl
  · intro h; exact absurd h (by rw [sr36]; decide)
  · intro v hv; injection hv with hv; subst hv; rfl
  intro s hs hd ho
  have hm : s.m = ⟨.nil, []⟩ := by subst hs; rfl
  have h0 : s.t.get 0 = vi n := by subst hs; rfl
  clear hs
  by_cases c1 : n < 0
  · refine gP (aI @h0 <|aI @hm <|@c1) ?_
    refine cnd (fun h => ?_) (fun h => ?_)
    · refine gP @hm ?_
      refine rPAS hd (aI @Tryd.results36 <|@hm) ?_
      try exact True.intro
      rw [ofS, if_pos (.inl c1)]; rfl
    · simp at h
  by_cases c2 : n > 1099511627776
  · refine gP (aI @h0 <|aI @hm <|aI @c1 <|@c2) ?_
    refine cnd (fun h => ?_) (fun h => ?_)
    · refine gP @hm ?_
      refine rPAS hd (aI @Tryd.results36 <|@hm) ?_
      try exact True.intro
      rw [ofS, if_pos (.inr c2)]; rfl
    · simp at h
  obtain ⟨k, rfl⟩ : ∃ k : Nat, n = k := ⟨n.toNat, by omega⟩
  have hk16 : k < 60 ^ 16 := by omega
  have q1 := P88 k (by omega)
  have q2 := P81 (k * 60 ^ 72) (by
    calc k * 60 ^ 72 < 60 ^ 16 * 60 ^ 72 := Nat.mul_lt_mul_of_pos_right hk16 (by decide)
      _ ≤ 60 ^ 168 := by decide)
  rw [placeRes_whole hk16] at q2
  rw [ofS, if_neg (by omega), Int.toNat_natCast]
  clear hk16
  refine gP (aI @h0 <|aI @hm <|aI @c1 <|@c2) ?_
  refine cnd (fun h => ?_) (fun h => ?_)
  · simp at h
  refine gPAW (aI @h0 <|aI @hm <|aI @co88 <|aI @sr88 <|aI @co81 <|aI @sr81 <|aI @q1.iffx <|@q2.iffx) ?_
  refine rP hd @Tryd.results36 ?_
  try exact True.intro
theorem int_step (N j : Nat) (hj : 0 < j) : N / 60 ^ (j - 1) = N / 60 ^ j * 60 + dig N (j - 1) := by
  have := div_succ N (j - 1)
  rwa [show j - 1 + 1 = j by omega] at this
theorem P105 (N : Nat) (hN : N < 60 ^ 168) : Ans X 105 [wv N, vi 1099511627776] (.ret (.tup (if N / 60 ^ 72 ≤ 1099511627776 then [vn (N / 60 ^ 72), .bool true] else [vi 0, .bool false]))) := by
  refine call_of_X (fn := Tryd.f105) 2 Tryd.func105 rfl (by decide +kernel) rfl ?_ ?_ ?_ ?_
  · simp only [List.any_cons, List.any_nil, wv_refs]; rfl
  · intro _; split <;> rfl
  · intro v hv; injection hv with hv; subst hv; split <;> rfl
  intro s hs hd ho
  have hm : s.m = ⟨.nil, []⟩ := by subst hs; rfl
  have h0 : s.t.get 0 = .agg (wc (dig N)) := by subst hs; rfl
  have h1 : s.t.get 1 = vi 1099511627776 := by subst hs; rfl
  clear hs
  refine gPW (aI @h0 <|aI @h1 <|@hm) ?_
  refine W_loopg (fun (j : Nat) s => s.dfs = [] ∧ s.m.out.length = 0 ∧ s.t.get 1 = vi 1099511627776 ∧ s.t.get 2 = .ptr ⟨0, 2, 0, 1⟩ 0 0 ∧ s.t.get 6 = vn (N / 60 ^ j) ∧ s.t.get 7 = vn (j - 1) ∧
    s.m.row ⟨0, 2, 0, 1⟩ = some ⟨1, 100, false, false, [.agg (wc (dig N))]⟩ ∧ 72 ≤ j ∧ j ≤ 168 ∧ N / 60 ^ j ≤ 1099511627776) (fun j => j) 168 ?_ ?_
  · have hz : N / 60 ^ 168 = 0 := Nat.div_eq_of_lt hN
    rw [hz]
    refine ⟨hd, ?_, ?_, ?_, ?_, ?_, ?_, by decide, Nat.le_refl _, Nat.zero_le _⟩
    all_goals (try refine fW (aI @h0 <|aI @h1 <|@hm) ?_);all_goals try exact True.intro
    all_goals rfl
  clear hd ho hm h0 h1 hN
  rintro j s ⟨hd, ho, h1, h2, h6, h7, r2, hj1, hj2, hle⟩
  refine gP @h7 ?_
  refine cnd (fun h => ?_) (fun h => ?_)
  · have hj : 73 ≤ j := by have := of_decide_eq_true h; omega
    clear h
    have hst := int_step N j (by omega)
    have hd60 := dig_lt N (j - 1)
    have hmono : N / 60 ^ (j - 1) ≤ N / 60 ^ 72 := by
      have e : (60 : Nat) ^ (j - 1) = 60 ^ 72 * 60 ^ (j - 1 - 72) := by rw [← Nat.pow_add]; congr 1; omega
      rw [e, ← Nat.div_div_eq_div_mul]; exact Nat.div_le_self _ _
    generalize N / 60 ^ j = q at *
    generalize hdg : dig N (j - 1) = d at *
    have hidx : j - 1 < 168 := by omega
    have hi0 : (0 : Int) ≤ ((j - 1 : Nat) : Int) := by omega
    have hi1 : ((j - 1 : Nat) : Int) < (168 : Int) := by omega
    have hi2 : ((j - 1 : Nat) : Int) < ((168 : Nat) : Int) := by omega
    have hget : (wc (dig N))[j - 1]? = some (vn d) := by rw [wc_get _ hidx, hdg]
    have g1 : V.int .i64 (wr .i64 ((1099511627776 : Int) - d)) = vn (1099511627776 - d) := by rw [wr_i64 (by omega) (by omega)]; congr 1; omega
    have g2 : V.int .i64 (wr .i64 (Int.tdiv ((1099511627776 - d : Nat) : Int) 60)) = vn ((1099511627776 - d) / 60) := by rw [cast_tdiv60, wr_nat (by omega)]
    have g3 : V.int .i64 (wr .i64 ((q : Int) * 60)) = vn (q * 60) := by rw [cast_mul60, wr_nat (by omega)]
    have g5 : V.int .i64 (wr .i64 ((j - 1 : Nat) - (1 : Int))) = vn (j - 1 - 1) := by rw [wr_i64 (by omega) (by omega)]; congr 1; omega
    by_cases c : q > (1099511627776 - d) / 60
    · have c' : ((q : Nat) : Int) > (((1099511627776 - d) / 60 : Nat) : Int) := by omega
      rw [if_neg (by omega)]
      clear hst hmono hle
      repeat (first
        | with_reducible first | refine W_seq ?_ | refine W_skip ?_ | refine W_label ?_ | refine W_ret ?_ | refine W_exit ?_ | refine W_block ?_ | refine thenI ?_ | refine thenRet ?_ | refine thenExit ?_ | refine blockRet ?_ | refine blockI ?_ | refine blockExit ?_ | refine blockExitNe rfl ?_
        | (with_reducible refine W_region_k ?_
           intro K hK
           simp (maxSteps := 2000000) (disch := omega) only [SA, ofValue, ofCell, bin, intBin, un, idx, Go.Ev.builtin, calleeOf, V.isNilS, V.depthOk, depth1, V.ok1, V.isAgg, V.cells, isConst, Nat.reduceBEq, Nat.reduceEqDiff, ↓reduceIte, Nat.reduceLeDiff, Nat.reduceAdd, Nat.reduceMul, Nat.reduceSub, Nat.reduceLT, Int.reduceAdd, Int.reduceSub, Int.reduceMul, Int.reduceLT, Int.reduceLE, Int.reduceToNat, Int.reduceNeg, reduceIte, reduceCtorEq, SPx, SWx, h1, h2, h6, h7, r2, hidx, hi0, hi1, hi2, hget, Int.reduceEq, g1, g2, c']
           refine hK _ _ ?_
           clear hK K)
      )
      refine cnd (fun h => ?_) (fun h => ?_)
      · refine gP @Nat.zero_add ?_
        refine rP hd @Tryd.results105 ?_
        try exact True.intro
      · simp at h
    · have c' : ¬ ((q : Nat) : Int) > (((1099511627776 - d) / 60 : Nat) : Int) := by omega
      have hle2 : q * 60 + d ≤ 1099511627776 := by omega
      have g4 : V.int .i64 (wr .i64 (((q * 60 : Nat) : Int) + d)) = vn (N / 60 ^ (j - 1)) := by rw [cast_add, wr_nat (by omega), hst]
      have hm2 : j - 1 < j ∧ 72 ≤ j - 1 ∧ j - 1 ≤ 168 ∧ N / 60 ^ (j - 1) ≤ 1099511627776 := by omega
      clear hst hmono hle
      repeat (first
        | with_reducible first | refine W_seq ?_ | refine W_skip ?_ | refine W_label ?_ | refine W_ret ?_ | refine W_exit ?_ | refine W_block ?_ | refine thenI ?_ | refine thenRet ?_ | refine thenExit ?_ | refine blockRet ?_ | refine blockI ?_ | refine blockExit ?_ | refine blockExitNe rfl ?_
        | (with_reducible refine W_region_k ?_
           intro K hK
           simp (maxSteps := 2000000) (disch := omega) only [SA, ofValue, ofCell, bin, intBin, un, idx, Go.Ev.builtin, calleeOf, V.isNilS, V.depthOk, depth1, V.ok1, V.isAgg, V.cells, isConst, Nat.reduceBEq, Nat.reduceEqDiff, ↓reduceIte, Nat.reduceLeDiff, Nat.reduceAdd, Nat.reduceMul, Nat.reduceSub, Nat.reduceLT, Int.reduceAdd, Int.reduceSub, Int.reduceMul, Int.reduceLT, Int.reduceLE, Int.reduceToNat, Int.reduceNeg, reduceIte, reduceCtorEq, SPx, SWx, h1, h2, h6, h7, r2, hidx, hi0, hi1, hi2, hget, Int.reduceEq, g1, g2, c']
           refine hK _ _ ?_
           clear hK K)
      )
      refine cnd (fun h => ?_) (fun h => ?_)
      · simp at h
      refine gPW (aI @h1 <|aI @h2 <|aI @h6 <|aI @h7 <|aI @r2 <|aI @hidx <|aI @hi0 <|aI @hi1 <|aI @hi2 <|aI @hget <|aI @g3 <|aI @g4 <|@g5) ?_
      refine ⟨j - 1, ⟨hd, ?_, ?_, ?_, ?_, ?_, ?_, hm2.2.1, hm2.2.2.1, hm2.2.2.2⟩, hm2.1⟩
      all_goals (try refine f0 (aI @ho <|aI @h1 <|aI @h2 <|@r2) ?_);all_goals try exact True.intro
  · have hj : j = 72 := by have := of_decide_eq_false h; omega
    subst hj
    clear h
    rw [if_pos hle]
    clear hle
    refine gP @h6 ?_
    refine rP hd @Tryd.results105 ?_
    try exact True.intro
def whS (a : List Int) : Int × Int := if chk a ≠ 0 then (0, chk a) else if numI a ≤ 1099511627776 then ((numI a : Int), 0) else (0, 6)
theorem P43 (a : List Int) : Ans X 43 [.sl (ints a)] (.ret (.tup [vi (whS a).1, vi (whS a).2])) := by
  refine call_of_X (fn := Tryd.f43) 1 Tryd.func43 rfl (by decide +kernel) rfl ?_ ?_ ?_ ?_
  · rfl
  · exact fun _ => rfl
  · intro v hv; injection hv with hv; subst hv; rfl
  intro s hs hd ho
  have hm : s.m = ⟨.nil, []⟩ := by subst hs; rfl
  have h0 : s.t.get 0 = .sl (ints a) := by subst hs; rfl
  clear hs
  refine gP (aI @h0 <|aI @hm <|aI @co28 <|aI @sr28 <|((P28 a).iffx)) ?_
  refine cnd (fun h => ?_) (fun h => ?_)
  · have h : chk a ≠ 0 := by simpa using h
    refine gP @Nat.zero_add ?_
    refine rP hd @Tryd.results43 ?_
    try exact True.intro
    rw [whS, if_pos h]
  have hc : chk a = 0 := by simpa using h
  rw [whS, if_neg (fun e => e hc)]
  obtain ⟨b1, b2, b3, b4, _⟩ := chk_ok hc
  rw [b1] at h0
  have hb := numI_lt hc
  have q1 : Ans X 86 [.sl (nats (natsOf a)), vi 0] (.ret (wv (numI a * 60 ^ 72))) := P86 (natsOf a) 0 72 rfl b2 (by omega)
  have q2 := P105 (numI a * 60 ^ 72) (by
    calc numI a * 60 ^ 72 < 60 ^ 16 * 60 ^ 72 := Nat.mul_lt_mul_of_pos_right hb (by decide)
      _ ≤ 60 ^ 168 := by decide)
  rw [Nat.mul_div_cancel _ (pow_pos 72)] at q2
  clear h hb b1 b2 b3 b4
  by_cases c : numI a ≤ 1099511627776
  · rw [if_pos c] at q2 ⊢
    clear c
    refine gPW (aI @h0 <|aI @co86 <|aI @sr86 <|aI @co105 <|aI @sr105 <|aI @q1.iffx <|@q2.iffx) ?_
    refine cnd (fun h => ?_) (fun h => ?_)
    · simp at h
    refine gP @Nat.zero_add ?_
    refine rP hd @Tryd.results43 ?_
    try exact True.intro
  · rw [if_neg c] at q2 ⊢
    clear c
    refine gPW (aI @h0 <|aI @co86 <|aI @sr86 <|aI @co105 <|aI @sr105 <|aI @q1.iffx <|@q2.iffx) ?_
    refine cnd (fun h => ?_) (fun h => ?_)
    · refine gP @Nat.zero_add ?_
      refine rP hd @Tryd.results43 ?_
      try exact True.intro
    · simp at h
end Go.Proofs.YtpocekfifokndaaDoor
namespace Go.Proofs.YtpocekfifokndaaDoor
open Go Go.Ev Go.Pl
set_option maxRecDepth 100000
set_option maxHeartbeats 4000000
theorem P95 (n : Nat) (hn : n < 9000000000000000000) : Ans X 95 [vn n] (.ret (.sl (nats (canL n)))) := by
  refine call_of_X (fn := Tryd.f95) 1 Tryd.func95 rfl (by decide +kernel) rfl ?_ ?_ ?_ ?_
  · rfl
  · intro h; exact absurd h (by rw [sr95]; decide)
  · intro v hv; injection hv with hv; subst hv; rfl
  intro s hs hd ho
  have hm : s.m = ⟨.nil, []⟩ := by subst hs; rfl
  have h0 : s.t.get 0 = vn n := by subst hs; rfl
  clear hs
  have hlen : (canL n).length ≤ 12 := canL_length_le.2 (by omega)
  refine gP (aI @h0 <|@hm) ?_
  refine W_loopg (fun (x : List Nat × Nat) s => s.dfs = [] ∧ s.m.out.length = 0 ∧ s.t.get 0 = vn x.2 ∧ Held s.m 3 1 (s.t.get 3) x.1 ∧ canL n = x.1 ++ canL x.2) (fun x => x.2) ([], n) ?_ ?_
  · refine ⟨hd, ?_, ?_, ⟨1, 0, ?_, ?_, .inr ⟨rfl, rfl⟩⟩, by simp⟩
    all_goals (try refine f0 (aI @h0 <|@hm) ?_);all_goals try exact True.intro
    · rfl
  clear hd h0 ho hm
  rintro ⟨l, q⟩ s ⟨hd, ho, h0, ⟨g, ty, h3, r3, hty⟩, hc⟩
  dsimp only at h0 h3 r3 hty hc
  have hl : l.length ≤ 12 := by have := congrArg List.length hc; rw [List.length_append] at this; omega
  have hq : q < 9000000000000000000 := by
    have h1 : numL (canL n) = n := num_canL n
    rw [hc, num_append, num_canL] at h1
    have : q ≤ 60 ^ l.length * q := Nat.le_mul_of_pos_left _ (pow_pos _)
    omega
  refine gP (aI @h0 <|aI @h3 <|aI @r3 <|@ho) ?_
  refine cnd (fun h => ?_) (fun h => ?_)
  · have h := of_decide_eq_true h
    have hq2 : q / 60 < 9000000000000000000 := by omega
    refine gPSC (aI @h0 <|aI @h3 <|aI @r3 <|aI @ho <|@hty) ?_
    refine ⟨(l ++ [q % 60], q / 60), ⟨hd, ?_, ?_, ⟨g + 1, 3, ?_, ?_, .inl rfl⟩, ?_⟩, by dsimp only; omega⟩
    all_goals (try refine fS (aI @h0 <|aI @h3 <|@ho) ?_);all_goals try exact True.intro
    · rw [hc, canL_pos (by omega : 0 < q)]; simp
  · have h := of_decide_eq_false h
    obtain rfl : q = 0 := by omega
    rw [canL_zero, List.append_nil] at hc
    subst hc
    refine gP (aI @h3 <|@ho) ?_
    refine rPS hd (aI @Tryd.results95 <|aI (mv_rs r3) <|aI @h3 <|@ho) ?_
    try exact True.intro
end Go.Proofs.YtpocekfifokndaaDoor
namespace Go.Proofs.YtpocekfifokndaaDoor
open Go Go.Ev Go.Pl
set_option maxRecDepth 100000
set_option maxHeartbeats 4000000
theorem P83 (N : Nat) (hN : (canL N).length < 1000) : Ans X 83 [.sl (nats (canL N))] (.ret (.tup [.sl (nats (digB N)), vn (vz N)])) := by
  refine call_of_X (fn := Tryd.f83) 1 Tryd.func83 rfl (by decide +kernel) rfl ?_ ?_ ?_ ?_
  · rfl
  · intro h; exact absurd h (by rw [sr83]; decide)
  · intro v hv; injection hv with hv; subst hv; rfl
  intro s hs hd ho
  have hm : s.m = ⟨.nil, []⟩ := by subst hs; rfl
  have h0 : s.t.get 0 = .sl (nats (canL N)) := by subst hs; rfl
  clear hs
  have hl := canL_len_core N
  repeat (first
    | with_reducible first | refine W_seq ?_ | refine W_skip ?_ | refine W_label ?_ | refine W_ret ?_ | refine W_exit ?_ | refine thenI ?_ | refine thenRet ?_ | refine thenExit ?_ | refine blockRet ?_ | refine blockI ?_ | refine blockExit ?_ | refine blockExitNe rfl ?_
    | (with_reducible refine W_region_k ?_
       intro K hK
       simp (maxSteps := 2000000) (disch := omega) only [SA, ofValue, ofCell, bin, intBin, un, idx, Go.Ev.builtin, calleeOf, V.isNilS, V.depthOk, depth1, V.ok1, V.isAgg, V.cells, isConst, Nat.reduceBEq, Nat.reduceEqDiff, ↓reduceIte, Nat.reduceLeDiff, Nat.reduceAdd, Nat.reduceMul, Nat.reduceSub, Nat.reduceLT, Int.reduceAdd, Int.reduceSub, Int.reduceMul, Int.reduceLT, Int.reduceLE, Int.reduceToNat, Int.reduceNeg, reduceIte, reduceCtorEq, SPx, SSx, appendTo, elemsOf, h0, hm]
       refine hK _ _ ?_
       clear hK K)
  )
  refine W_mid (fun s => s.dfs = [] ∧ s.m.out.length = 0 ∧ s.t.get 0 = .sl (nats (canL N)) ∧ s.t.get 4 = vn (vz N) ∧ s.m.gen 5 1 = 0) ?_ ?_
  · refine gP @Nat.zero_add ?_
    refine W_loopg (fun (k : Nat) s => s.dfs = [] ∧ s.m.out.length = 0 ∧ s.t.get 0 = .sl (nats (canL N)) ∧ s.t.get 4 = vn k ∧ s.m.gen 5 1 = 0 ∧ k ≤ vz N) (fun k => vz N - k) 0 ?_ ?_
    · refine ⟨hd, ?_, ?_, ?_, ?_, Nat.zero_le _⟩
      all_goals (try refine f0 (aI @h0 <|aI @hm <|@filled_nilS) ?_);all_goals try exact True.intro
      · rfl
    clear hd h0 ho hm
    rintro k s ⟨hd, ho, h0, h4, hg, hk⟩
    by_cases hkz : k < vz N
    · have hk2 : (k : Int) < (canL N).length := by omega
      have hg0 : (canL N)[k]? = some 0 := by
        rw [canL_core, List.getElem?_append_left (by rw [List.length_replicate]; exact hkz)]
        simp [hkz]
      refine gPC (aI @nats_length <|aI @nats_get? <|aI @h0 <|aI @h4 <|aI @ho <|aI @hk2 <|aI @hg0 <|@Int.natCast_zero) ?_
      refine cnd (fun h => ?_) (fun h => ?_)
      · refine gPC (aI @h0 <|aI @h4 <|@ho) ?_
        refine ⟨k + 1, ⟨hd, ?_, ?_, ?_, ?_, by omega⟩, by omega⟩
        all_goals (try refine f0 (aI @h0 <|aI @ho <|@hg) ?_);all_goals try exact True.intro
      · simp at h
    obtain rfl : k = vz N := by omega
    by_cases hkl : vz N < (canL N).length
    · have hk2 : ((vz N : Nat) : Int) < (canL N).length := by omega
      have hN0 : 0 < N := by
        rcases Nat.eq_zero_or_pos N with rfl | h'
        · rw [canL_zero] at hkl; simp at hkl
        · exact h'
      have hge : 60 ^ vz N ≤ N := by
        rcases Nat.lt_or_ge N (60 ^ vz N) with h' | h'
        · have := canL_length_le.2 h'; omega
        · exact h'
      have hg0 : (canL N)[vz N]? = some (dig N (vz N)) := by rw [canL_get?, if_pos hge]
      have hne : ¬ (((dig N (vz N) : Nat) : Int) = 0) := by have := vz_dig hN0; omega
      refine gPC (aI @nats_length <|aI @nats_get? <|aI @h0 <|aI @h4 <|aI @ho <|aI @hk2 <|aI @hg0 <|(beq_eq_false_iff_ne.2 hne)) ?_
      refine cnd (fun h => ?_) (fun h => ?_)
      · simp at h
      · refine gP @Nat.zero_add ?_
        refine ⟨hd, ?_, ?_, ?_, ?_⟩
        all_goals (try refine f0 (aI @h0 <|aI @h4 <|aI @ho <|@hg) ?_);all_goals try exact True.intro
    · have hk2 : ¬ (((vz N : Nat) : Int) < (canL N).length) := by omega
      refine gPC (aI @nats_length <|aI @nats_get? <|aI @h0 <|aI @h4 <|aI @ho <|@hk2) ?_
      refine cnd (fun h => ?_) (fun h => ?_)
      · simp at h
      · refine gP @Nat.zero_add ?_
        refine ⟨hd, ?_, ?_, ?_, ?_⟩
        all_goals (try refine f0 (aI @h0 <|aI @h4 <|aI @ho <|@hg) ?_);all_goals try exact True.intro
  clear hd h0 ho hm
  rintro s ⟨hd, ho, h0, h4, hg⟩
  refine gPS (aI @h0 <|aI @h4 <|aI @ho <|aI @hg <|@wr_i64) ?_
  refine W_loopg (fun (k : Nat) s => s.dfs = [] ∧ s.m.out.length = 0 ∧ s.t.get 0 = .sl (nats (canL N)) ∧ s.t.get 4 = vn (vz N) ∧ s.t.get 6 = vi ((canL N).length - 1 - k) ∧ Held s.m 5 1 (s.t.get 5) ((digB N).take k) ∧ k ≤ (digB N).length) (fun k => (digB N).length - k) 0 ?_ ?_
  · refine ⟨hd, ?_, ?_, ?_, ?_, ⟨1, 0, ?_, ?_, .inr ⟨rfl, rfl⟩⟩, Nat.zero_le _⟩
    all_goals (try refine f0 (aI @h0 <|aI @h4 <|aI @ho <|@hg) ?_);all_goals try exact True.intro
    · simp
    · simp
    · simp [nats]
  clear hd h0 ho hg h4
  rintro k s ⟨hd, ho, h0, h4, h6, ⟨g, ty, h5, r5, hty⟩, hk⟩
  have hlen : ((digB N).take k).length = k := by rw [List.length_take]; omega
  rw [hlen] at h5 hty
  refine gP (aI @h0 <|aI @h4 <|aI @h5 <|aI @h6 <|aI @r5 <|@ho) ?_
  refine cnd (fun h => ?_) (fun h => ?_)
  · have h := of_decide_eq_true h
    have hk : k < (digB N).length := by omega
    have hdk := digB_get N hk
    have hcg : (canL N)[(canL N).length - 1 - k]? = some (dig N ((canL N).length - 1 - k)) := by
      rw [canL_get?, if_pos]
      rcases Nat.lt_or_ge N (60 ^ ((canL N).length - 1 - k)) with h' | h'
      · have := canL_length_le.2 h'; omega
      · exact h'
    have hc : ((canL N).length - 1 - (k : Int)).toNat = (canL N).length - 1 - k := by omega
    have hc0 : (0 : Int) ≤ ((canL N).length : Int) - 1 - k := by omega
    have hnat : nats ((digB N).take k) ++ [vn (dig N ((canL N).length - 1 - k))] = nats ((digB N).take (k + 1)) := by
      rw [nats_snoc, List.take_add_one, hdk]; rfl
    have hcut : cut (nats ((digB N).take k)) 0 k = nats ((digB N).take k) := by
      conv => lhs; arg 3; rw [← hlen]
      exact cut_nats _
    refine gPS (aI @cut_one <|aI @hcut <|aI @hnat <|aI @h0 <|aI @h4 <|aI @h5 <|aI @h6 <|aI @r5 <|aI @ho <|aI @hty <|aI @hlen <|aI @nats_get? <|aI @hcg <|aI @hc <|aI @hc0 <|@wr_i64) ?_
    refine ⟨k + 1, ⟨hd, ?_, ?_, ?_, ?_, ⟨g + 1, 3, ?_, ?_, .inl rfl⟩, by omega⟩, by omega⟩
    all_goals (try refine fS (aI @h0 <|aI @h4 <|aI @h5 <|@ho) ?_);all_goals try exact True.intro
    · congr 1; omega
    · rw [List.length_take, Nat.min_eq_left (by omega)]
  · have h := of_decide_eq_false h
    obtain rfl : k = (digB N).length := by omega
    rw [List.take_length] at r5
    refine gP (aI @h4 <|aI @h5 <|@ho) ?_
    refine rPS hd (aI @Tryd.results83 <|aI @mv_rsr <|aI @mv2_rsr <|aI @r5 <|aI @h4 <|aI @h5 <|@ho) ?_
    try exact True.intro
end Go.Proofs.YtpocekfifokndaaDoor
