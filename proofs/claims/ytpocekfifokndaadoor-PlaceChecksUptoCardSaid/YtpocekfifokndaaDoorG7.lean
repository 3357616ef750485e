/- Part 7 of the proof: an evaluator of the program, proved sound against the model, and what the functions of the program compute. No condition but those each theorem states. -/
import Derived.Test.YtpocekfifokndaaDoorG2
import Derived.Test.YtpocekfifokndaaDoorG1
import Derived.Test.YtpocekfifokndaaDoorG6
import Derived.Test.YtpocekfifokndaaDoorG3
set_option linter.unusedSimpArgs false
set_option linter.unusedVariables false
namespace Go.Proofs.YtpocekfifokndaaDoor
open Go Go.Ev Go.Pl
set_option maxRecDepth 100000
set_option maxHeartbeats 4000000
theorem cut_ints (l : List Int) : cut (ints l) 0 l.length = ints l := by unfold cut; rw [List.drop_zero, List.take_of_length_le (by rw [ints_length]; exact Nat.le_refl _)]
theorem P71 (a : List Int) (hl : a.length < 1000000000) : Ans X 71 [.sl (ints a)] (.ret (.sl (ints a))) := by
  refine call_of_X (fn := Tryd.f71) 1 Tryd.func71 rfl (by decide +kernel) rfl ?_ ?_ ?_ ?_
  · rfl
  · intro h; exact absurd h (by rw [sr71]; decide)
  · intro v hv; injection hv with hv; subst hv; rfl
  intro s hs hd ho
  have hm : s.m = ⟨.nil, []⟩ := by subst hs; rfl
  have h0 : s.t.get 0 = .sl (ints a) := by subst hs; rfl
  clear hs
  have hb : a.length * 10 ≤ 1099511627776 := by omega
  refine gPAS (aI @h0 <|aI @hm <|aI @ints_length <|aI @ints_width <|aI @cut_ints <|@hb) ?_
  refine rPAS hd (aI @Tryd.results71 <|aI @ints_length <|@cut_ints) ?_
  try exact True.intro
  rw [show cut ([] : List V) 0 0 = [] from rfl, List.nil_append, cut_ints]
end Go.Proofs.YtpocekfifokndaaDoor
namespace Go.Proofs.YtpocekfifokndaaDoor
open Go Go.Ev Go.Pl
set_option maxRecDepth 100000
set_option maxHeartbeats 4000000
theorem k131 : ((List.range 60).all fun x => match evFn X 50 131 [vn x] [] with | some (.ret (.str s), _) => s == decB x | _ => false) = true := by kernel_rfl
theorem P131 (x : Nat) (h : x < 60) : Ans X 131 [vn x] (.ret (.str (decB x))) := by
  have hk := List.all_eq_true.1 k131 x (List.mem_range.2 h)
  refine ⟨rfl, rfl, fun _ => rfl, fun v hv => by injection hv with hv; subst hv; rfl, ?_⟩
  split at hk
  · rename_i s out he
    have : s = decB x := by simpa using hk
    subst this
    exact ⟨out, 50, he⟩
  · simp at hk
end Go.Proofs.YtpocekfifokndaaDoor
namespace Go.Proofs.YtpocekfifokndaaDoor
open Go Go.Ev Go.Pl
set_option maxRecDepth 100000
set_option maxHeartbeats 4000000
theorem joinB_cons (sep l l' : List UInt8) (r : List (List UInt8)) : joinB sep (l :: l' :: r) = l ++ sep ++ joinB sep (l' :: r) := by
  rw [joinB]
  intro e; cases e
theorem text_snoc : ∀ (l : List Nat) (x : Nat), joinB [58] ((l ++ [x]).map decB) = (if l = [] then decB x else joinB [58] (l.map decB) ++ [58] ++ decB x)
  | [], x => rfl
  | [y], x => by simp [joinB]
  | y :: z :: r, x => by
    have ih := text_snoc (z :: r) x
    rw [if_neg (by simp)] at ih ⊢
    have e1 : (y :: z :: r ++ [x]).map decB = decB y :: decB z :: (r ++ [x]).map decB := rfl
    have e2 : (z :: r ++ [x]).map decB = decB z :: (r ++ [x]).map decB := rfl
    have e3 : (y :: z :: r).map decB = decB y :: decB z :: r.map decB := rfl
    have e4 : (z :: r).map decB = decB z :: r.map decB := rfl
    rw [e2, e4] at ih
    rw [e1, e3, joinB_cons, joinB_cons, ih]
    simp only [List.append_assoc]
theorem P72 (a : List Int) : Ans X 72 [.sl (ints a)] (.ret (.tup [.str (textS a).1, vi (textS a).2])) := by
  refine call_of_X (fn := Tryd.f72) 1 Tryd.func72 rfl (by decide +kernel) rfl ?_ ?_ ?_ ?_
  · rfl
  · exact fun _ => rfl
  · intro v hv; injection hv with hv; subst hv; rfl
  intro s hs hd ho
  have hm : s.m = ⟨.nil, []⟩ := by subst hs; rfl
  have h0 : s.t.get 0 = .sl (ints a) := by subst hs; rfl
  clear hs
  refine gP (aI @h0 <|aI @hm <|aI @co74 <|aI @sr74 <|((P74 a).iffx)) ?_
  refine cnd (fun h => ?_) (fun h => ?_)
  · have h : chk a ≠ 0 := by simpa using h
    refine gP @Nat.zero_add ?_
    refine rP hd @Tryd.results72 ?_
    try exact True.intro
    rw [textS, if_pos h]
  have hc : chk a = 0 := by simpa using h
  rw [textS, if_neg (fun e => e hc)]
  clear h
  by_cases hl : a.length = 0
  · have e1 : (((a.length : Nat) : Int) == 0) = true := by rw [hl]; rfl
    rw [if_pos hl]
    refine gP (aI @h0 <|aI @ints_length <|@e1) ?_
    refine cnd (fun h => ?_) (fun h => ?_)
    · refine gP @Nat.zero_add ?_
      refine rP hd @Tryd.results72 ?_
      try exact True.intro
    · simp at h
  have e1 : (((a.length : Nat) : Int) == 0) = false := by rw [beq_eq_false_iff_ne]; omega
  rw [if_neg hl]
  refine gP (aI @h0 <|aI @ints_length <|@e1) ?_
  refine cnd (fun h => ?_) (fun h => ?_)
  · simp at h
  clear h
  obtain ⟨b1, b2, b3, b4, _⟩ := chk_ok hc
  rw [b1] at h0
  generalize natsOf a = l at *
  rw [← b4] at b3
  clear b1 hc hl e1 b4
  refine gP (aI @h0 <|aI @hm <|@nats_length) ?_
  refine W_loopg (fun (k : Nat) s => s.dfs = [] ∧ s.m.out.length = 0 ∧ s.t.get 0 = .sl (nats l) ∧ s.t.get 5 = .str (textB (l.take k)) ∧ s.t.get 6 = vn k ∧ k ≤ l.length) (fun k => l.length - k) 0 ?_ ?_
  · refine ⟨hd, ?_, ?_, ?_, ?_, Nat.zero_le _⟩
    all_goals (try refine f0 (aI @h0 <|@hm) ?_);all_goals try exact True.intro
    all_goals rfl
  clear hd h0 hm ho
  rintro k s ⟨hd, ho, h0, h5, h6, hk⟩
  refine gP (aI @h0 <|aI @h6 <|@nats_length) ?_
  refine cnd (fun h => ?_) (fun h => ?_)
  · have hk' : k < l.length := by have := of_decide_eq_true h; omega
    clear h
    obtain ⟨x, hx⟩ : ∃ x, l[k]? = some x := ⟨l[k], by simp⟩
    have hx60 := b2 x (List.mem_of_getElem? hx)
    have gx : (nats l)[k]? = some (vn x) := by rw [nats_get?, hx]; rfl
    have q := P131 x hx60
    have i1 : (0 : Int) ≤ (k : Int) := by omega
    have e1 : V.int .i64 (wr .i64 ((k : Int) + 1)) = vn (k + 1) := by rw [wr_i64 (by omega) (by omega)]; rfl
    have ht : l.take (k + 1) = l.take k ++ [x] := by rw [List.take_add_one, hx]; simp
    have hlen : (textB (l.take k)).length ≤ 3 * l.length := Nat.le_trans (joinB_len _) (by rw [List.length_take]; omega)
    have hdx := decB_len x
    have htx : textB (l.take (k + 1)) = if k = 0 then decB x else textB (l.take k) ++ [58] ++ decB x := by
      unfold textB
      rw [ht, text_snoc]
      rcases Nat.eq_zero_or_pos k with rfl | hp
      · simp
      · rw [if_neg (by intro e; have := congrArg List.length e; rw [List.length_take, List.length_nil] at this; omega), if_neg (by omega)]
    clear hx ht
    rcases Nat.eq_zero_or_pos k with rfl | hp
    · have hk0 : textB (l.take 0) = [] := rfl
      rw [hk0] at h5
      rw [if_pos rfl] at htx
      refine gPAS @h6 ?_
      refine cnd (fun h => ?_) (fun h => ?_)
      · simp at h
      repeat (first
        | with_reducible first | refine W_seq ?_ | refine W_skip ?_ | refine W_label ?_ | refine W_ret ?_ | refine W_exit ?_ | refine W_block ?_ | refine thenI ?_ | refine thenRet ?_ | refine thenExit ?_ | refine blockRet ?_ | refine blockI ?_ | refine blockExit ?_ | refine blockExitNe rfl ?_
        | (with_reducible refine W_region_k ?_
           intro K hK
           simp (maxSteps := 2000000) (disch := omega) only [SA, ofValue, ofCell, bin, intBin, un, idx, Go.Ev.builtin, calleeOf, V.isNilS, V.depthOk, depth1, V.ok1, V.isAgg, V.cells, isConst, Nat.reduceBEq, Nat.reduceEqDiff, ↓reduceIte, Nat.reduceLeDiff, Nat.reduceAdd, Nat.reduceMul, Nat.reduceSub, Nat.reduceLT, Int.reduceAdd, Int.reduceSub, Int.reduceMul, Int.reduceLT, Int.reduceLE, Int.reduceToNat, Int.reduceNeg, reduceIte, reduceCtorEq, SPx, SAx, SSx, appendTo, elemsOf, strBin, h0, h5, h6, ho, gx, i1, hk', nats_length, co131, sr131, q.iff, e1]
           refine hK _ _ ?_
           clear hK K)
      )
      refine ⟨1, ⟨hd, ?_, ?_, ?_, ?_, hk'⟩, by omega⟩
      all_goals (try refine fS (aI @h0 <|aI @h5 <|aI @h6 <|@ho) ?_);all_goals try exact True.intro
      rw [htx]
    · have c1 : decide ((k : Int) > 0) = true := decide_eq_true (by omega)
      rw [if_neg (by omega)] at htx
      generalize textB (l.take k) = T at *
      have l1 : T.length + 1 ≤ 1099511627776 := by omega
      obtain ⟨U, hU⟩ : ∃ U, T ++ [58] = U := ⟨_, rfl⟩
      have l2 : U.length + (decB x).length ≤ 1099511627776 := by rw [← hU, List.length_append, List.length_singleton]; omega
      rw [hU] at htx
      clear hlen hdx
      refine gPAS (aI @h6 <|@c1) ?_
      refine cnd (fun h => ?_) (fun h => ?_)
      rotate_left
      · simp at h
      clear h
      repeat (first
        | with_reducible first | refine W_seq ?_ | refine W_skip ?_ | refine W_label ?_ | refine W_ret ?_ | refine W_exit ?_ | refine W_block ?_ | refine thenI ?_ | refine thenRet ?_ | refine thenExit ?_ | refine blockRet ?_ | refine blockI ?_ | refine blockExit ?_ | refine blockExitNe rfl ?_
        | (with_reducible refine W_region_k ?_
           intro K hK
           simp (maxSteps := 2000000) (disch := omega) only [SA, ofValue, ofCell, bin, intBin, un, idx, Go.Ev.builtin, calleeOf, V.isNilS, V.depthOk, depth1, V.ok1, V.isAgg, V.cells, isConst, Nat.reduceBEq, Nat.reduceEqDiff, ↓reduceIte, Nat.reduceLeDiff, Nat.reduceAdd, Nat.reduceMul, Nat.reduceSub, Nat.reduceLT, Int.reduceAdd, Int.reduceSub, Int.reduceMul, Int.reduceLT, Int.reduceLE, Int.reduceToNat, Int.reduceNeg, reduceIte, reduceCtorEq, SPx, SAx, SSx, appendTo, elemsOf, strBin, h0, h5, h6, ho, gx, i1, hk', nats_length, co131, sr131, q.iff, e1, l1, hU]
           refine hK _ _ ?_
           clear hK K)
      )
      repeat (first
        | with_reducible first | refine W_seq ?_ | refine W_skip ?_ | refine W_label ?_ | refine W_ret ?_ | refine W_exit ?_ | refine W_block ?_ | refine thenI ?_ | refine thenRet ?_ | refine thenExit ?_ | refine blockRet ?_ | refine blockI ?_ | refine blockExit ?_ | refine blockExitNe rfl ?_
        | (with_reducible refine W_region_k ?_
           intro K hK
           simp (maxSteps := 2000000) (disch := omega) only [SA, ofValue, ofCell, bin, intBin, un, idx, Go.Ev.builtin, calleeOf, V.isNilS, V.depthOk, depth1, V.ok1, V.isAgg, V.cells, isConst, Nat.reduceBEq, Nat.reduceEqDiff, ↓reduceIte, Nat.reduceLeDiff, Nat.reduceAdd, Nat.reduceMul, Nat.reduceSub, Nat.reduceLT, Int.reduceAdd, Int.reduceSub, Int.reduceMul, Int.reduceLT, Int.reduceLE, Int.reduceToNat, Int.reduceNeg, reduceIte, reduceCtorEq, SPx, SAx, SSx, appendTo, elemsOf, strBin, h0, h5, h6, ho, gx, i1, hk', nats_length, co131, sr131, q.iff, e1, l1, l2, hU]
           refine hK _ _ ?_
           clear hK K)
      )
      refine ⟨k + 1, ⟨hd, ?_, ?_, ?_, ?_, hk'⟩, by omega⟩
      all_goals (try refine fS (aI @h0 <|aI @h5 <|aI @h6 <|@ho) ?_);all_goals try exact True.intro
      rw [htx]
  · have hk' : k = l.length := by have := of_decide_eq_false h; omega
    subst hk'
    rw [List.take_length] at h5
    clear h
    refine gP @h5 ?_
    refine rP hd @Tryd.results72 ?_
    try exact True.intro
end Go.Proofs.YtpocekfifokndaaDoor
namespace Go.Proofs.YtpocekfifokndaaDoor
open Go Go.Ev Go.Pl
set_option maxRecDepth 100000
set_option maxHeartbeats 4000000
def ofS (n : Int) : List Nat × Int := if n < 0 ∨ 1099511627776 < n then ([], 8) else (digB n.toNat, 0)
theorem P36 (n : Int) : Ans X 36 [vi n] (.ret (.tup [.sl (nats (ofS n).1), vi (ofS n).2])) := by
  refine call_of_X (fn := Tryd.f36) 1 Tryd.func36 rfl (by decide +kernel) rfl ?_ ?_ ?_ ?_
  · rfl
  · intro h; exact absurd h (by rw [sr36]; decide)
  · intro v hv; injection hv with hv; subst hv; rfl
  intro s hs hd ho
  have hm : s.m = ⟨.nil, []⟩ := by subst hs; rfl
  have h0 : s.t.get 0 = vi n := by subst hs; rfl
  clear hs
  by_cases c1 : n < 0
  · refine gP (aI @h0 <|aI @hm <|@c1) ?_
    refine cnd (fun h => ?_) (fun h => ?_)
    · refine gP @hm ?_
      refine rPAS hd (aI @Tryd.results36 <|@hm) ?_
      try exact True.intro
      rw [ofS, if_pos (.inl c1)]; rfl
    · simp at h
  by_cases c2 : n > 1099511627776
  · refine gP (aI @h0 <|aI @hm <|aI @c1 <|@c2) ?_
    refine cnd (fun h => ?_) (fun h => ?_)
    · refine gP @hm ?_
      refine rPAS hd (aI @Tryd.results36 <|@hm) ?_
      try exact True.intro
      rw [ofS, if_pos (.inr c2)]; rfl
    · simp at h
  obtain ⟨k, rfl⟩ : ∃ k : Nat, n = k := ⟨n.toNat, by omega⟩
  have hk16 : k < 60 ^ 16 := by omega
  have q1 := P88 k (by omega)
  have q2 := P81 (k * 60 ^ 72) (by
    calc k * 60 ^ 72 < 60 ^ 16 * 60 ^ 72 := Nat.mul_lt_mul_of_pos_right hk16 (by decide)
      _ ≤ 60 ^ 168 := by decide)
  rw [placeRes_whole hk16] at q2
  rw [ofS, if_neg (by omega), Int.toNat_natCast]
  clear hk16
  refine gP (aI @h0 <|aI @hm <|aI @c1 <|@c2) ?_
  refine cnd (fun h => ?_) (fun h => ?_)
  · simp at h
  refine gPAW (aI @h0 <|aI @hm <|aI @co88 <|aI @sr88 <|aI @co81 <|aI @sr81 <|aI @q1.iffx <|@q2.iffx) ?_
  refine rP hd @Tryd.results36 ?_
  try exact True.intro
theorem int_step (N j : Nat) (hj : 0 < j) : N / 60 ^ (j - 1) = N / 60 ^ j * 60 + dig N (j - 1) := by
  have := div_succ N (j - 1)
  rwa [show j - 1 + 1 = j by omega] at this
theorem P105 (N : Nat) (hN : N < 60 ^ 168) : Ans X 105 [wv N, vi 1099511627776] (.ret (.tup (if N / 60 ^ 72 ≤ 1099511627776 then [vn (N / 60 ^ 72), .bool true] else [vi 0, .bool false]))) := by
  refine call_of_X (fn := Tryd.f105) 2 Tryd.func105 rfl (by decide +kernel) rfl ?_ ?_ ?_ ?_
  · simp only [List.any_cons, List.any_nil, wv_refs]; rfl
  · intro _; split <;> rfl
  · intro v hv; injection hv with hv; subst hv; split <;> rfl
  intro s hs hd ho
  have hm : s.m = ⟨.nil, []⟩ := by subst hs; rfl
  have h0 : s.t.get 0 = .agg (wc (dig N)) := by subst hs; rfl
  have h1 : s.t.get 1 = vi 1099511627776 := by subst hs; rfl
  clear hs
  refine gPW (aI @h0 <|aI @h1 <|@hm) ?_
  refine W_loopg (fun (j : Nat) s => s.dfs = [] ∧ s.m.out.length = 0 ∧ s.t.get 1 = vi 1099511627776 ∧ s.t.get 2 = .ptr ⟨0, 2, 0, 1⟩ 0 0 ∧ s.t.get 6 = vn (N / 60 ^ j) ∧ s.t.get 7 = vn (j - 1) ∧
    s.m.row ⟨0, 2, 0, 1⟩ = some ⟨1, 100, false, false, [.agg (wc (dig N))]⟩ ∧ 72 ≤ j ∧ j ≤ 168 ∧ N / 60 ^ j ≤ 1099511627776) (fun j => j) 168 ?_ ?_
  · have hz : N / 60 ^ 168 = 0 := Nat.div_eq_of_lt hN
    rw [hz]
    refine ⟨hd, ?_, ?_, ?_, ?_, ?_, ?_, by decide, Nat.le_refl _, Nat.zero_le _⟩
    all_goals (try refine fW (aI @h0 <|aI @h1 <|@hm) ?_);all_goals try exact True.intro
    all_goals rfl
  clear hd ho hm h0 h1 hN
  rintro j s ⟨hd, ho, h1, h2, h6, h7, r2, hj1, hj2, hle⟩
  refine gP @h7 ?_
  refine cnd (fun h => ?_) (fun h => ?_)
  · have hj : 73 ≤ j := by have := of_decide_eq_true h; omega
    clear h
    have hst := int_step N j (by omega)
    have hd60 := dig_lt N (j - 1)
    have hmono : N / 60 ^ (j - 1) ≤ N / 60 ^ 72 := by
      have e : (60 : Nat) ^ (j - 1) = 60 ^ 72 * 60 ^ (j - 1 - 72) := by rw [← Nat.pow_add]; congr 1; omega
      rw [e, ← Nat.div_div_eq_div_mul]; exact Nat.div_le_self _ _
    generalize N / 60 ^ j = q at *
    generalize hdg : dig N (j - 1) = d at *
    have hidx : j - 1 < 168 := by omega
    have hi0 : (0 : Int) ≤ ((j - 1 : Nat) : Int) := by omega
    have hi1 : ((j - 1 : Nat) : Int) < (168 : Int) := by omega
    have hi2 : ((j - 1 : Nat) : Int) < ((168 : Nat) : Int) := by omega
    have hget : (wc (dig N))[j - 1]? = some (vn d) := by rw [wc_get _ hidx, hdg]
    have g1 : V.int .i64 (wr .i64 ((1099511627776 : Int) - d)) = vn (1099511627776 - d) := by rw [wr_i64 (by omega) (by omega)]; congr 1; omega
    have g2 : V.int .i64 (wr .i64 (Int.tdiv ((1099511627776 - d : Nat) : Int) 60)) = vn ((1099511627776 - d) / 60) := by rw [cast_tdiv60, wr_nat (by omega)]
    have g3 : V.int .i64 (wr .i64 ((q : Int) * 60)) = vn (q * 60) := by rw [cast_mul60, wr_nat (by omega)]
    have g5 : V.int .i64 (wr .i64 ((j - 1 : Nat) - (1 : Int))) = vn (j - 1 - 1) := by rw [wr_i64 (by omega) (by omega)]; congr 1; omega
    by_cases c : q > (1099511627776 - d) / 60
    · have c' : ((q : Nat) : Int) > (((1099511627776 - d) / 60 : Nat) : Int) := by omega
      rw [if_neg (by omega)]
      clear hst hmono hle
      repeat (first
        | with_reducible first | refine W_seq ?_ | refine W_skip ?_ | refine W_label ?_ | refine W_ret ?_ | refine W_exit ?_ | refine W_block ?_ | refine thenI ?_ | refine thenRet ?_ | refine thenExit ?_ | refine blockRet ?_ | refine blockI ?_ | refine blockExit ?_ | refine blockExitNe rfl ?_
        | (with_reducible refine W_region_k ?_
           intro K hK
           simp (maxSteps := 2000000) (disch := omega) only [SA, ofValue, ofCell, bin, intBin, un, idx, Go.Ev.builtin, calleeOf, V.isNilS, V.depthOk, depth1, V.ok1, V.isAgg, V.cells, isConst, Nat.reduceBEq, Nat.reduceEqDiff, ↓reduceIte, Nat.reduceLeDiff, Nat.reduceAdd, Nat.reduceMul, Nat.reduceSub, Nat.reduceLT, Int.reduceAdd, Int.reduceSub, Int.reduceMul, Int.reduceLT, Int.reduceLE, Int.reduceToNat, Int.reduceNeg, reduceIte, reduceCtorEq, SPx, SWx, h1, h2, h6, h7, r2, hidx, hi0, hi1, hi2, hget, Int.reduceEq, g1, g2, c']
           refine hK _ _ ?_
           clear hK K)
      )
      refine cnd (fun h => ?_) (fun h => ?_)
      · refine gP @Nat.zero_add ?_
        refine rP hd @Tryd.results105 ?_
        try exact True.intro
      · simp at h
    · have c' : ¬ ((q : Nat) : Int) > (((1099511627776 - d) / 60 : Nat) : Int) := by omega
      have hle2 : q * 60 + d ≤ 1099511627776 := by omega
      have g4 : V.int .i64 (wr .i64 (((q * 60 : Nat) : Int) + d)) = vn (N / 60 ^ (j - 1)) := by rw [cast_add, wr_nat (by omega), hst]
      have hm2 : j - 1 < j ∧ 72 ≤ j - 1 ∧ j - 1 ≤ 168 ∧ N / 60 ^ (j - 1) ≤ 1099511627776 := by omega
      clear hst hmono hle
      repeat (first
        | with_reducible first | refine W_seq ?_ | refine W_skip ?_ | refine W_label ?_ | refine W_ret ?_ | refine W_exit ?_ | refine W_block ?_ | refine thenI ?_ | refine thenRet ?_ | refine thenExit ?_ | refine blockRet ?_ | refine blockI ?_ | refine blockExit ?_ | refine blockExitNe rfl ?_
        | (with_reducible refine W_region_k ?_
           intro K hK
           simp (maxSteps := 2000000) (disch := omega) only [SA, ofValue, ofCell, bin, intBin, un, idx, Go.Ev.builtin, calleeOf, V.isNilS, V.depthOk, depth1, V.ok1, V.isAgg, V.cells, isConst, Nat.reduceBEq, Nat.reduceEqDiff, ↓reduceIte, Nat.reduceLeDiff, Nat.reduceAdd, Nat.reduceMul, Nat.reduceSub, Nat.reduceLT, Int.reduceAdd, Int.reduceSub, Int.reduceMul, Int.reduceLT, Int.reduceLE, Int.reduceToNat, Int.reduceNeg, reduceIte, reduceCtorEq, SPx, SWx, h1, h2, h6, h7, r2, hidx, hi0, hi1, hi2, hget, Int.reduceEq, g1, g2, c']
           refine hK _ _ ?_
           clear hK K)
      )
      refine cnd (fun h => ?_) (fun h => ?_)
      · simp at h
      refine gPW (aI @h1 <|aI @h2 <|aI @h6 <|aI @h7 <|aI @r2 <|aI @hidx <|aI @hi0 <|aI @hi1 <|aI @hi2 <|aI @hget <|aI @g3 <|aI @g4 <|@g5) ?_
      refine ⟨j - 1, ⟨hd, ?_, ?_, ?_, ?_, ?_, ?_, hm2.2.1, hm2.2.2.1, hm2.2.2.2⟩, hm2.1⟩
      all_goals (try refine f0 (aI @ho <|aI @h1 <|aI @h2 <|@r2) ?_);all_goals try exact True.intro
  · have hj : j = 72 := by have := of_decide_eq_false h; omega
    subst hj
    clear h
    rw [if_pos hle]
    clear hle
    refine gP @h6 ?_
    refine rP hd @Tryd.results105 ?_
    try exact True.intro
def whS (a : List Int) : Int × Int := if chk a ≠ 0 then (0, chk a) else if numI a ≤ 1099511627776 then ((numI a : Int), 0) else (0, 6)
theorem P43 (a : List Int) : Ans X 43 [.sl (ints a)] (.ret (.tup [vi (whS a).1, vi (whS a).2])) := by
  refine call_of_X (fn := Tryd.f43) 1 Tryd.func43 rfl (by decide +kernel) rfl ?_ ?_ ?_ ?_
  · rfl
  · exact fun _ => rfl
  · intro v hv; injection hv with hv; subst hv; rfl
  intro s hs hd ho
  have hm : s.m = ⟨.nil, []⟩ := by subst hs; rfl
  have h0 : s.t.get 0 = .sl (ints a) := by subst hs; rfl
  clear hs
  refine gP (aI @h0 <|aI @hm <|aI @co28 <|aI @sr28 <|((P28 a).iffx)) ?_
  refine cnd (fun h => ?_) (fun h => ?_)
  · have h : chk a ≠ 0 := by simpa using h
    refine gP @Nat.zero_add ?_
    refine rP hd @Tryd.results43 ?_
    try exact True.intro
    rw [whS, if_pos h]
  have hc : chk a = 0 := by simpa using h
  rw [whS, if_neg (fun e => e hc)]
  obtain ⟨b1, b2, b3, b4, _⟩ := chk_ok hc
  rw [b1] at h0
  have hb := numI_lt hc
  have q1 : Ans X 86 [.sl (nats (natsOf a)), vi 0] (.ret (wv (numI a * 60 ^ 72))) := P86 (natsOf a) 0 72 rfl b2 (by omega)
  have q2 := P105 (numI a * 60 ^ 72) (by
    calc numI a * 60 ^ 72 < 60 ^ 16 * 60 ^ 72 := Nat.mul_lt_mul_of_pos_right hb (by decide)
      _ ≤ 60 ^ 168 := by decide)
  rw [Nat.mul_div_cancel _ (pow_pos 72)] at q2
  clear h hb b1 b2 b3 b4
  by_cases c : numI a ≤ 1099511627776
  · rw [if_pos c] at q2 ⊢
    clear c
    refine gPW (aI @h0 <|aI @co86 <|aI @sr86 <|aI @co105 <|aI @sr105 <|aI @q1.iffx <|@q2.iffx) ?_
    refine cnd (fun h => ?_) (fun h => ?_)
    · simp at h
    refine gP @Nat.zero_add ?_
    refine rP hd @Tryd.results43 ?_
    try exact True.intro
  · rw [if_neg c] at q2 ⊢
    clear c
    refine gPW (aI @h0 <|aI @co86 <|aI @sr86 <|aI @co105 <|aI @sr105 <|aI @q1.iffx <|@q2.iffx) ?_
    refine cnd (fun h => ?_) (fun h => ?_)
    · refine gP @Nat.zero_add ?_
      refine rP hd @Tryd.results43 ?_
      try exact True.intro
    · simp at h
end Go.Proofs.YtpocekfifokndaaDoor
namespace Go.Proofs.YtpocekfifokndaaDoor
open Go Go.Ev Go.Pl
set_option maxRecDepth 100000
set_option maxHeartbeats 4000000
theorem num_tab (M : Nat) : ∀ n, numL (tab n (dig M)) = M % 60 ^ n
  | 0 => by simp [tab, numL, Nat.mod_one]
  | n + 1 => by
    rw [tab_succ, num_append, num_tab M n, tab_length, mod_succ]
    simp only [numL, Nat.mul_zero, Nat.add_zero]
    rw [Nat.mul_comm]
theorem trim_tab {M n : Nat} (h : M < 60 ^ n) : trimL (tab n (dig M)) = canL M := by
  rw [trimL_can, num_tab, Nat.mod_eq_of_lt h]
  intro d hd
  obtain ⟨i, _, rfl⟩ := List.mem_map.1 hd
  exact dig_lt _ _
theorem P102 (C d : Nat) (hl : (canL C).length < 1000) (hd0 : 0 < d) (hd1 : d < 10000000000000) : Ans X 102 [.sl (nats (canL C)), vn d] (.ret (.tup [.sl (nats (canL (C / d))), vn (C % d)])) := by
  refine call_of_X (fn := Tryd.f102) 2 Tryd.func102 rfl (by decide +kernel) rfl ?_ ?_ ?_ ?_
  · rfl
  · intro h; exact absurd h (by rw [sr102]; decide)
  · intro v hv; injection hv with hv; subst hv; rfl
  intro s hs hd ho
  have hm : s.m = ⟨.nil, []⟩ := by subst hs; rfl
  have h0 : s.t.get 0 = .sl (nats (canL C)) := by subst hs; rfl
  have h1 : s.t.get 1 = vn d := by subst hs; rfl
  clear hs
  have hC : C < 60 ^ (canL C).length := canL_length_le.1 (Nat.le_refl _)
  have hget : ∀ i, i < (canL C).length → (canL C)[i]? = some (dig C i) := fun i hi => by
    conv => lhs; rw [canL_tab]
    exact tab_get? hi
  generalize hL : canL C = L at *
  generalize hn : L.length = n at *
  have e0 : V.int .i64 (wr .i64 ((n : Int) - 1)) = vi ((n : Int) - 1) := by rw [wr_i64 (by omega) (by omega)]
  refine gPS (aI @nats_zero <|aI @h0 <|aI @h1 <|aI @hm <|aI @nats_length <|aI @hn <|@e0) ?_
  refine W_loopg (fun (k : Nat) s => s.dfs = [] ∧ s.m.out.length = 0 ∧ s.t.get 0 = .sl (nats L) ∧ s.t.get 1 = vn d ∧ s.t.get 6 = .rs ⟨0, 11, 0, 1⟩ 3 0 n ∧ s.t.get 7 = vn (C / 60 ^ k % d) ∧ s.t.get 8 = vi ((k : Int) - 1) ∧ k ≤ n ∧
    s.m.row ⟨0, 11, 0, 1⟩ = some ⟨1, 3, true, false, nats (tab n fun j => if k ≤ j then dig (C / d) j else 0)⟩) (fun k => k) n ?_ ?_
  · have hz : C / 60 ^ n % d = 0 := by rw [Nat.div_eq_of_lt hC]; simp
    have ht : (tab n fun j => if n ≤ j then dig (C / d) j else 0) = List.replicate n 0 := by
      rw [tab_const]; exact tab_congr fun j hj => if_neg (by omega)
    rw [hz, ht]
    refine ⟨hd, ?_, ?_, ?_, ?_, ?_, ?_, Nat.le_refl _, ?_⟩
    all_goals (try refine f0 (aI @h0 <|aI @h1 <|@hm) ?_);all_goals try exact True.intro
    all_goals rfl
  clear hd h0 h1 ho hm
  rintro k s ⟨hd, ho, h0, h1, h6, h7, h8, hk, r11⟩
  refine gP @h8 ?_
  refine cnd (fun h => ?_) (fun h => ?_)
  · have hk0 : 0 < k := by have := of_decide_eq_true h; omega
    obtain ⟨i, rfl⟩ : ∃ i, k = i + 1 := ⟨k - 1, by omega⟩
    clear h
    have h8' : s.t.get 8 = vn i := by rw [h8]; congr 1; omega
    clear h8
    obtain ⟨s1, s2⟩ := over_step C d i hd0
    have hr : C / 60 ^ (i + 1) % d < d := Nat.mod_lt _ hd0
    have hdg := dig_lt C i
    have hg := hget i (by omega)
    have hin : (i : Int) < (n : Int) := by omega
    have hin' : i < n := by omega
    have hi0 : (0 : Int) ≤ (i : Int) := by omega
    have hdn : ¬ ((d : Int) = 0) := by omega
    have hset : (tab n fun j => if i + 1 ≤ j then dig (C / d) j else 0).set i (dig (C / d) i) = tab n fun j => if i ≤ j then dig (C / d) j else 0 := by
      rw [tab_set]
      refine tab_congr fun j hj => ?_
      by_cases e : j = i
      · subst e; simp
      · rw [if_neg e]
        by_cases c : i + 1 ≤ j
        · rw [if_pos c, if_pos (by omega)]
        · rw [if_neg c, if_neg (by omega)]
    have hgo : ∃ v, (tab n fun j => if i + 1 ≤ j then dig (C / d) j else 0)[i]? = some v := ⟨_, tab_get? hin'⟩
    obtain ⟨v, hv⟩ := hgo
    generalize C / 60 ^ (i + 1) % d = r at *
    generalize dig C i = x at *
    have e1 : V.int .i64 (wr .i64 (wr .i64 ((r : Int) * 60) + x)) = vn (r * 60 + x) := by rw [cast_mul60, wr_nat (by omega), cast_add, wr_nat (by omega)]
    have e2 : V.int .i64 (wr .i64 (Int.tdiv ((r * 60 + x : Nat) : Int) (d : Int))) = vn (dig (C / d) i) := by
      rw [cast_tdiv, s1, wr_nat (Nat.lt_trans (dig_lt _ _) (by decide))]
    have e3 : V.int .i64 (Int.tmod ((r * 60 + x : Nat) : Int) (d : Int)) = vn (C / 60 ^ i % d) := by rw [cast_tmod, s2]
    have e4 : V.int .i64 (wr .i64 ((i : Int) - 1)) = vi ((i : Int) - 1) := by rw [wr_i64 (by omega) (by omega)]
    refine gPS (aI @nats_get? <|aI @nats_set <|aI @h0 <|aI @h1 <|aI @h6 <|aI @h7 <|aI @h8' <|aI @r11 <|aI @ho <|aI @hg <|aI @hn <|aI @hin <|aI @hin' <|aI @hi0 <|aI @hdn <|aI @hv <|aI @nats_length <|aI @tab_length <|aI @e1 <|aI @e2 <|aI @e3 <|@e4) ?_
    refine ⟨i, ⟨hd, ?_, ?_, ?_, ?_, ?_, ?_, by omega, ?_⟩, by omega⟩
    all_goals (try refine f0 (aI @h0 <|aI @h1 <|aI @h6 <|aI @ho <|@hset) ?_);all_goals try exact True.intro
  · have hk0 : k = 0 := by have := of_decide_eq_false h; omega
    subst hk0
    clear h
    have ht : (tab n fun j => if 0 ≤ j then dig (C / d) j else 0) = tab n (dig (C / d)) := tab_congr fun j hj => if_pos (Nat.zero_le _)
    rw [ht] at r11
    rw [Nat.pow_zero, Nat.div_one] at h7
    have hcut : cut (nats (tab n (dig (C / d)))) 0 n = nats (tab n (dig (C / d))) := by
      have := cut_nats (tab n (dig (C / d)))
      rwa [tab_length] at this
    have hlt : C / d < 60 ^ n := Nat.lt_of_le_of_lt (Nat.div_le_self _ _) hC
    have q := P135 (tab n (dig (C / d))) (by rw [tab_length]; omega)
    rw [trim_tab hlt] at q
    refine gPS (aI @h6 <|aI @h7 <|aI @r11 <|aI @ho <|aI @hcut <|aI @nats_length <|aI @tab_length <|aI @co135 <|aI @sr135 <|@q.iffx) ?_
    refine rPS hd (aI @Tryd.results102 <|@ho) ?_
    try exact True.intro
end Go.Proofs.YtpocekfifokndaaDoor
namespace Go.Proofs.YtpocekfifokndaaDoor
open Go Go.Ev Go.Pl
set_option maxRecDepth 100000
set_option maxHeartbeats 4000000
theorem P122 (C : Nat) (hl : (canL C).length < 1000) : Ans X 122 [.sl (nats (canL C))] (.ret (.tup (if C ≤ 1099511627776 then [vn C, .bool true] else [vi 0, .bool false]))) := by
  refine call_of_X (fn := Tryd.f122) 1 Tryd.func122 rfl (by decide +kernel) rfl ?_ ?_ ?_ ?_
  · rfl
  · intro _; split <;> rfl
  · intro v hv; injection hv with hv; subst hv; split <;> rfl
  intro s hs hd ho
  have h0 : s.t.get 0 = .sl (nats (canL C)) := by subst hs; rfl
  clear hs
  have hC : C < 60 ^ (canL C).length := canL_length_le.1 (Nat.le_refl _)
  have hget : ∀ i, i < (canL C).length → (canL C)[i]? = some (dig C i) := fun i hi => by
    conv => lhs; rw [canL_tab]
    exact tab_get? hi
  generalize hL : canL C = L at *
  generalize hn : L.length = n at *
  have e0 : V.int .i64 (wr .i64 ((n : Int) - 1)) = vi ((n : Int) - 1) := by rw [wr_i64 (by omega) (by omega)]
  refine gPS (aI @h0 <|aI @nats_length <|aI @hn <|@e0) ?_
  refine W_loopg (fun (k : Nat) s => s.dfs = [] ∧ s.m.out.length = 0 ∧ s.t.get 0 = .sl (nats L) ∧ s.t.get 4 = vn (C / 60 ^ k) ∧ s.t.get 5 = vi ((k : Int) - 1) ∧ k ≤ n ∧ C / 60 ^ k ≤ 1099511627776) (fun k => k) n ?_ ?_
  · have hz : C / 60 ^ n = 0 := Nat.div_eq_of_lt hC
    rw [hz]
    refine ⟨hd, ?_, ?_, ?_, ?_, Nat.le_refl _, Nat.zero_le _⟩
    all_goals (try refine f0 (aI @h0 <|@ho) ?_);all_goals try exact True.intro
    all_goals rfl
  clear hd h0 ho hC
  rintro k s ⟨hd, ho, h0, h4, h5, hk, hle⟩
  refine gP @h5 ?_
  refine cnd (fun h => ?_) (fun h => ?_)
  · have hk0 : 0 < k := by have := of_decide_eq_true h; omega
    have hst := int_step C k hk0
    have hd60 := dig_lt C (k - 1)
    have hg := hget (k - 1) (by omega)
    have hmono : C / 60 ^ (k - 1) ≤ C := Nat.div_le_self _ _
    generalize C / 60 ^ k = q at *
    generalize dig C (k - 1) = d at *
    have hg' : (nats L)[k - 1]? = some (vn d) := by rw [nats, List.getElem?_map, hg]; rfl
    have i1 : (0 : Int) ≤ (k : Int) - 1 := by omega
    have i2 : (k : Int) - 1 < (n : Int) := by omega
    have i3 : ((k : Int) - 1).toNat = k - 1 := by omega
    have g1 : V.int .i64 (wr .i64 ((q : Int) * 60)) = vn (q * 60) := by rw [cast_mul60, wr_nat (by omega)]
    have g2 : V.int .i64 (wr .i64 (((q * 60 : Nat) : Int) + d)) = vn (q * 60 + d) := by rw [cast_add, wr_nat (by omega)]
    have g3 : V.int .i64 (wr .i64 ((k : Int) - 1 - 1)) = vi (((k - 1 : Nat) : Int) - 1) := by rw [wr_i64 (by omega) (by omega)]; congr 1; omega
    have hm : k - 1 ≤ n ∧ k - 1 < k := by omega
    rw [← hst] at g2
    by_cases c : C / 60 ^ (k - 1) ≤ 1099511627776
    · have c' : ¬ (((C / 60 ^ (k - 1) : Nat) : Int) > 1099511627776) := by omega
      clear h hst hmono hle
      refine gP (aI @h0 <|aI @h4 <|aI @h5 <|aI @nats_length <|aI @hn <|aI @i1 <|aI @i2 <|aI @i3 <|aI @hg' <|aI @g1 <|aI @g2 <|@c') ?_
      refine cnd (fun h => ?_) (fun h => ?_)
      · simp at h
      refine gP (aI @h5 <|@g3) ?_
      refine ⟨k - 1, ⟨hd, ?_, ?_, ?_, ?_, hm.1, c⟩, hm.2⟩
      all_goals (try refine f0 (aI @h0 <|@ho) ?_);all_goals try exact True.intro
    · have c' : ((C / 60 ^ (k - 1) : Nat) : Int) > 1099511627776 := by omega
      rw [if_neg (by omega)]
      clear h hst hmono hle
      refine gP (aI @h0 <|aI @h4 <|aI @h5 <|aI @nats_length <|aI @hn <|aI @i1 <|aI @i2 <|aI @i3 <|aI @hg' <|aI @g1 <|aI @g2 <|@c') ?_
      refine cnd (fun h => ?_) (fun h => ?_)
      · refine gP @Nat.zero_add ?_
        refine rP hd @Tryd.results122 ?_
        try exact True.intro
      · simp at h
  · have hk0 : k = 0 := by have := of_decide_eq_false h; omega
    subst hk0
    rw [Nat.pow_zero, Nat.div_one] at h4 hle
    rw [if_pos hle]
    refine gP @h4 ?_
    refine rP hd @Tryd.results122 ?_
    try exact True.intro
end Go.Proofs.YtpocekfifokndaaDoor
namespace Go.Proofs.YtpocekfifokndaaDoor
open Go Go.Ev Go.Pl
set_option maxRecDepth 100000
set_option maxHeartbeats 4000000
theorem P85 (a : List Nat) (ha : ∀ d ∈ a, d < 60) (hl : a.length < 1000) : Ans X 85 [.sl (nats a)] (.ret (.sl (nats (canL (numL a.reverse))))) := by
  refine call_of_X (fn := Tryd.f85) 1 Tryd.func85 rfl (by decide +kernel) rfl ?_ ?_ ?_ ?_
  · rfl
  · intro h; exact absurd h (by rw [sr85]; decide)
  · intro v hv; injection hv with hv; subst hv; rfl
  intro s hs hd ho
  have hm : s.m = ⟨.nil, []⟩ := by subst hs; rfl
  have h0 : s.t.get 0 = .sl (nats a) := by subst hs; rfl
  clear hs
  refine gPS (aI @h0 <|aI @hm <|@wr_i64) ?_
  refine W_loopg (fun (k : Nat) s => s.dfs = [] ∧ s.m.out.length = 0 ∧ s.t.get 0 = .sl (nats a) ∧ s.t.get 4 = vi (a.length - 1 - k) ∧ Held s.m 3 1 (s.t.get 3) (a.reverse.take k) ∧ k ≤ a.length) (fun k => a.length - k) 0 ?_ ?_
  · refine ⟨hd, ?_, ?_, ?_, ⟨1, 0, ?_, ?_, .inr ⟨rfl, rfl⟩⟩, Nat.zero_le _⟩
    all_goals (try refine f0 (aI @h0 <|@hm) ?_);all_goals try exact True.intro
    · simp
    · simp
    · simp [nats]
  clear hd h0 ho hm
  rintro k s ⟨hd, ho, h0, h4, ⟨g, ty, h3, r3, hty⟩, hk⟩
  have hlen : (a.reverse.take k).length = k := by rw [List.length_take, List.length_reverse]; omega
  rw [hlen] at h3 hty
  refine gP (aI @h0 <|aI @h3 <|aI @h4 <|aI @r3 <|@ho) ?_
  refine cnd (fun h => ?_) (fun h => ?_)
  · have h := of_decide_eq_true h
    have hk : k < a.length := by omega
    obtain ⟨d, hdk⟩ : ∃ d, a[a.length - 1 - k]? = some d := ⟨a[a.length - 1 - k]'(by omega), by simp⟩
    have hc : ((a.length : Int) - 1 - k).toNat = a.length - 1 - k := by omega
    have hc0 : (0 : Int) ≤ (a.length : Int) - 1 - k := by omega
    have hnat : nats (a.reverse.take k) ++ [vn d] = nats (a.reverse.take (k + 1)) := by
      rw [nats_snoc, List.take_add_one, List.getElem?_reverse (by omega), hdk]; rfl
    have hcut : cut (nats (a.reverse.take k)) 0 k = nats (a.reverse.take k) := by
      conv => lhs; arg 3; rw [← hlen]
      exact cut_nats _
    refine gPS (aI @cut_one <|aI @hcut <|aI @hnat <|aI @h0 <|aI @h3 <|aI @h4 <|aI @r3 <|aI @ho <|aI @hty <|aI @hlen <|aI @nats_get? <|aI @hdk <|aI @hc <|aI @hc0 <|@wr_i64) ?_
    refine ⟨k + 1, ⟨hd, ?_, ?_, ?_, ⟨g + 1, 3, ?_, ?_, .inl rfl⟩, by omega⟩, by omega⟩
    all_goals (try refine fS (aI @h0 <|aI @h3 <|@ho) ?_);all_goals try exact True.intro
    · congr 1; omega
    · rw [List.length_take, List.length_reverse, Nat.min_eq_left (by omega)]
  · have h := of_decide_eq_false h
    obtain rfl : k = a.length := by omega
    rw [show a.length = a.reverse.length by simp, List.take_length] at r3
    have hrev : ∀ d ∈ a.reverse, d < 60 := fun d hd => ha d (List.mem_reverse.1 hd)
    have hcut : cut (nats a.reverse) 0 a.length = nats a.reverse := by
      conv => lhs; arg 3; rw [← List.length_reverse]
      exact cut_nats _
    have hcall := P135 a.reverse (by rw [List.length_reverse]; omega)
    rw [trimL_can hrev] at hcall
    refine gPS (aI @h3 <|aI @r3 <|aI @ho <|aI @List.length_reverse.{0} <|aI @hcut <|aI @co135 <|aI @sr135 <|@hcall.iffx) ?_
    refine rPS hd (aI @Tryd.results85 <|@ho) ?_
    try exact True.intro
end Go.Proofs.YtpocekfifokndaaDoor
namespace Go.Proofs.YtpocekfifokndaaDoor
open Go Go.Ev Go.Pl
set_option maxRecDepth 100000
set_option maxHeartbeats 4000000
theorem P73 (a : List Int) : Ans X 73 [.sl (ints a)] (.ret (.tup [vi (whS a).1, vi (whS a).2])) := by
  refine call_of_X (fn := Tryd.f73) 1 Tryd.func73 rfl (by decide +kernel) rfl ?_ ?_ ?_ ?_
  · rfl
  · exact fun _ => rfl
  · intro v hv; injection hv with hv; subst hv; rfl
  intro s hs hd ho
  have hm : s.m = ⟨.nil, []⟩ := by subst hs; rfl
  have h0 : s.t.get 0 = .sl (ints a) := by subst hs; rfl
  clear hs
  refine gP (aI @h0 <|aI @hm <|aI @co74 <|aI @sr74 <|((P74 a).iffx)) ?_
  refine cnd (fun h => ?_) (fun h => ?_)
  · have h : chk a ≠ 0 := by simpa using h
    refine gP @Nat.zero_add ?_
    refine rP hd @Tryd.results73 ?_
    try exact True.intro
    rw [whS, if_pos h]
  have hc : chk a = 0 := by simpa using h
  rw [whS, if_neg (fun e => e hc)]
  obtain ⟨b1, b2, b3, b4, _⟩ := chk_ok hc
  rw [b1] at h0
  have q1 := P85 (natsOf a) b2 (by omega)
  have hb := numI_lt hc
  have hcl : (canL (numI a)).length ≤ 16 := canL_length_le.2 hb
  have q2 := P122 (numI a) (by omega)
  change Ans X 85 _ (.ret (.sl (nats (canL (numI a))))) at q1
  by_cases hle : numI a ≤ 1099511627776
  · rw [if_pos hle] at q2 ⊢
    refine gP (aI @h0 <|aI @co85 <|aI @sr85 <|aI @q1.iffx <|aI @co122 <|aI @sr122 <|@q2.iffx) ?_
    refine cnd (fun h => ?_) (fun h => ?_)
    · simp at h
    refine gP @Nat.zero_add ?_
    refine rP hd @Tryd.results73 ?_
    try exact True.intro
  · rw [if_neg hle] at q2 ⊢
    refine gP (aI @h0 <|aI @co85 <|aI @sr85 <|aI @q1.iffx <|aI @co122 <|aI @sr122 <|@q2.iffx) ?_
    refine cnd (fun h => ?_) (fun h => ?_)
    · refine gP @Nat.zero_add ?_
      refine rP hd @Tryd.results73 ?_
      try exact True.intro
    · simp at h
end Go.Proofs.YtpocekfifokndaaDoor
namespace Go.Proofs.YtpocekfifokndaaDoor
open Go Go.Ev Go.Pl
set_option maxRecDepth 100000
set_option maxHeartbeats 4000000
theorem P21 (a : List Int) (hl : a.length < 1000000000) : Ans X 21 [.sl (ints a)] (.ret (.bool true)) := by
  refine call_of_X (fn := Tryd.f21) 1 Tryd.func21 rfl (by decide +kernel) rfl ?_ ?_ ?_ ?_
  · rfl
  · exact fun _ => rfl
  · intro v hv; injection hv with hv; subst hv; rfl
  intro s hs hd ho
  have h0 : s.t.get 0 = .sl (ints a) := by subst hs; rfl
  clear hs
  have q71 := P71 a hl
  have q70 := P70 a
  have q72 := P72 a
  have q43 := P43 a
  have q73 := P73 a
  have q28 := P28 a
  have q74 := P74 a
  have q25 := P25 a a (by omega)
  rw [decide_eq_true rfl] at q25
  generalize textS a = t at *
  generalize whS a = u at *
  generalize chk a = c at *
  obtain ⟨t1, t2⟩ := t
  obtain ⟨u1, u2⟩ := u
  dsimp only at q70 q72 q43 q73
  repeat (first
    | with_reducible first | refine W_seq ?_ | refine W_skip ?_ | refine W_label ?_ | refine W_ret ?_ | refine W_exit ?_ | refine W_block ?_ | refine thenI ?_ | refine thenRet ?_ | refine thenExit ?_ | refine blockRet ?_ | refine blockI ?_ | refine blockExit ?_ | refine blockExitNe rfl ?_
    | (with_reducible refine W_region_k ?_
       intro K hK
       simp (maxSteps := 2000000) (disch := omega) only [SA, ofValue, ofCell, bin, intBin, un, idx, Go.Ev.builtin, calleeOf, V.isNilS, V.depthOk, depth1, V.ok1, V.isAgg, V.cells, isConst, Nat.reduceBEq, Nat.reduceEqDiff, ↓reduceIte, Nat.reduceLeDiff, Nat.reduceAdd, Nat.reduceMul, Nat.reduceSub, Nat.reduceLT, Int.reduceAdd, Int.reduceSub, Int.reduceMul, Int.reduceLT, Int.reduceLE, Int.reduceToNat, Int.reduceNeg, reduceIte, reduceCtorEq, SPx, SAx, SSx, appendTo, elemsOf, strBin, h0, ho, co71, sr71, q71.iff, co70, sr70, q70.iff, co72, sr72, q72.iff, co43, sr43, q43.iff, co73, sr73, q73.iff, co28, sr28, q28.iff, co74, sr74, q74.iff, co25, sr25, q25.iff, co26, sr26, P26.iff, beq_self_eq_true]
       refine hK _ _ ?_
       clear hK K)
  )
  refine rP hd @Tryd.results21 ?_
  try exact True.intro
end Go.Proofs.YtpocekfifokndaaDoor
