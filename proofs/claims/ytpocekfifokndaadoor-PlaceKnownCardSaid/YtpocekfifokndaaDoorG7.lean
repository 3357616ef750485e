/- Part 7 of the proof: an evaluator of the program, proved sound against the model, and what the functions of the program compute. No condition but those each theorem states. -/
import Derived.Test.YtpocekfifokndaaDoorG2
import Derived.Test.YtpocekfifokndaaDoorG6
import Derived.Test.YtpocekfifokndaaDoorG1
import Derived.Test.YtpocekfifokndaaDoorG3
set_option linter.unusedSimpArgs false
set_option linter.unusedVariables false
namespace Go.Proofs.YtpocekfifokndaaDoor
open Go Go.Ev Go.Pl
set_option maxRecDepth 100000
set_option maxHeartbeats 4000000
def cmpS (p q : List Int × Int) : Int × Int := if chkP p.1 p.2 ≠ 0 then (0, chkP p.1 p.2) else if chkP q.1 q.2 ≠ 0 then (0, chkP q.1 q.2) else (cmpN (valN p) (valN q), 0)
theorem cmpN_mul (N M k : Nat) : cmpN (N * 60 ^ k) (M * 60 ^ k) = cmpN N M := by
  unfold cmpN
  have hp := pow_pos k
  by_cases c : N < M
  · rw [if_pos c, if_pos (Nat.mul_lt_mul_of_pos_right c hp)]
  · have h1 : ¬ N * 60 ^ k < M * 60 ^ k := fun e => c (Nat.lt_of_mul_lt_mul_right e)
    rw [if_neg c, if_neg h1]
    by_cases c2 : M < N
    · rw [if_pos c2, if_pos (Nat.mul_lt_mul_of_pos_right c2 hp)]
    · rw [if_neg c2, if_neg (fun e => c2 (Nat.lt_of_mul_lt_mul_right e))]
theorem wide_of {p : List Int × Int} (h : chkP p.1 p.2 = 0) : ints p.1 = nats (natsOf p.1) ∧ Ans X 86 [.sl (nats (natsOf p.1)), vi p.2] (.ret (wv (valN p * 60 ^ 8))) ∧ valN p * 60 ^ 8 < 60 ^ 152 := by
  obtain ⟨hc, hs1, hs2⟩ := chkP_ok h
  obtain ⟨b1, b2, b3, b4, _⟩ := chk_ok hc
  obtain ⟨t, ht⟩ : ∃ t : Nat, (t : Int) = p.2 + 64 := ⟨(p.2 + 64).toNat, by omega⟩
  have q86 := P86 (natsOf p.1) p.2 (t + 8) (by omega) b2 (by omega)
  have hv : numL (natsOf p.1).reverse * 60 ^ (t + 8) = valN p * 60 ^ 8 := by
    rw [valN, ← ht, Int.toNat_natCast, Nat.pow_add, Nat.mul_assoc]; rfl
  rw [hv] at q86
  refine ⟨b1, q86, ?_⟩
  calc valN p * 60 ^ 8 < 60 ^ 144 * 60 ^ 8 := Nat.mul_lt_mul_of_pos_right (valN_lt h) (pow_pos 8)
    _ = 60 ^ 152 := by rw [← Nat.pow_add]
theorem P57 (p q : List Int × Int) : Ans X 57 [plcV p, plcV q] (.ret (.tup [vi (cmpS p q).1, vi (cmpS p q).2])) := by
  refine call_of_X (fn := Tryd.f57) 2 Tryd.func57 rfl (by decide +kernel) rfl ?_ ?_ ?_ ?_
  · rfl
  · exact fun _ => rfl
  · intro v hv; injection hv with hv; subst hv; rfl
  intro s hs hd ho
  have hm : s.m = ⟨.nil, []⟩ := by subst hs; rfl
  have h0 : s.t.get 0 = .agg [.sl (ints p.1), vi p.2] := by subst hs; rfl
  have h1 : s.t.get 1 = .agg [.sl (ints q.1), vi q.2] := by subst hs; rfl
  clear hs
  have q1 := P59 p.1 p.2
  have q2 := P59 q.1 q.2
  refine gPA (aI @h0 <|aI @h1 <|@hm) ?_
  refine W_loopg (fun (k : Nat) s => s.dfs = [] ∧ s.m.out.length = 0 ∧ s.t.get 2 = .ptr ⟨0, 2, 0, 1⟩ 0 0 ∧ s.t.get 3 = .ptr ⟨0, 3, 0, 1⟩ 0 0 ∧ s.t.get 14 = .agg [.sl (ints p.1), vi p.2, .sl (ints q.1), vi q.2] ∧ s.t.get 15 = vn k ∧
    s.m.row ⟨0, 2, 0, 1⟩ = some ⟨1, 54, false, false, [.agg [.sl (ints p.1), vi p.2]]⟩ ∧ s.m.row ⟨0, 3, 0, 1⟩ = some ⟨1, 54, false, false, [.agg [.sl (ints q.1), vi q.2]]⟩ ∧
    (k = 0 ∨ (k = 1 ∧ chkP p.1 p.2 = 0) ∨ (k = 2 ∧ chkP p.1 p.2 = 0 ∧ chkP q.1 q.2 = 0))) (fun k => 2 - k) 0 ?_ ?_
  · refine ⟨hd, ?_, ?_, ?_, ?_, ?_, ?_, ?_, .inl rfl⟩
    all_goals (try refine f0 (aI @h0 <|aI @h1 <|@hm) ?_);all_goals try exact True.intro
    all_goals rfl
  clear hd h0 h1 hm ho
  rintro k s ⟨hd, ho, h2, h3, h14, h15, r2, r3, hk⟩
  rcases hk with rfl | ⟨rfl, hp⟩ | ⟨rfl, hp, hq⟩
  · have h15 : s.t.get 15 = vi 0 := h15
    refine gP @h15 ?_
    refine cnd (fun h => ?_) (fun h => ?_)
    · refine gPA (aI @h2 <|aI @h3 <|aI @h14 <|aI @h15 <|aI @r2 <|aI @r3 <|aI @ho <|aI @co59 <|aI @sr59 <|@q1.iffx) ?_
      refine cnd (fun h => ?_) (fun h => ?_)
      · have h : chkP p.1 p.2 ≠ 0 := by simpa using h
        refine gP @Nat.zero_add ?_
        refine rP hd @Tryd.results57 ?_
        try exact True.intro
        rw [cmpS, if_pos h]
      · have h : chkP p.1 p.2 = 0 := by simpa using h
        refine gP (aI @h15 <|@wr_i64) ?_
        refine ⟨1, ⟨hd, ?_, ?_, ?_, ?_, ?_, ?_, ?_, .inr (.inl ⟨rfl, h⟩)⟩, by decide⟩
        all_goals (try refine f0 (aI @h2 <|aI @h3 <|aI @h14 <|aI @r2 <|aI @r3 <|@ho) ?_);all_goals try exact True.intro
        all_goals rfl
    · simp at h
  · have h15 : s.t.get 15 = vi 1 := h15
    refine gP @h15 ?_
    refine cnd (fun h => ?_) (fun h => ?_)
    · refine gPA (aI @h2 <|aI @h3 <|aI @h14 <|aI @h15 <|aI @r2 <|aI @r3 <|aI @ho <|aI @co59 <|aI @sr59 <|@q2.iffx) ?_
      refine cnd (fun h => ?_) (fun h => ?_)
      · have h : chkP q.1 q.2 ≠ 0 := by simpa using h
        refine gP @Nat.zero_add ?_
        refine rP hd @Tryd.results57 ?_
        try exact True.intro
        rw [cmpS, if_neg (fun e => e hp), if_pos h]
      · have h : chkP q.1 q.2 = 0 := by simpa using h
        refine gP (aI @h15 <|@wr_i64) ?_
        refine ⟨2, ⟨hd, ?_, ?_, ?_, ?_, ?_, ?_, ?_, .inr (.inr ⟨rfl, hp, h⟩)⟩, by decide⟩
        all_goals (try refine f0 (aI @h2 <|aI @h3 <|aI @h14 <|aI @r2 <|aI @r3 <|@ho) ?_);all_goals try exact True.intro
        all_goals rfl
    · simp at h
  · have h15 : s.t.get 15 = vi 2 := h15
    rw [cmpS, if_neg (fun e => e hp), if_neg (fun e => e hq), ← cmpN_mul _ _ 8]
    obtain ⟨b1, w1, l1⟩ := wide_of hp
    obtain ⟨b2, w2, l2⟩ := wide_of hq
    rw [b1] at r2
    rw [b2] at r3
    have l1 := lt_pow_mono l1 (by decide : 152 ≤ 168)
    have l2 := lt_pow_mono l2 (by decide : 152 ≤ 168)
    obtain ⟨N, hNe⟩ : ∃ N, N = valN p * 60 ^ 8 := ⟨_, rfl⟩
    obtain ⟨M, hMe⟩ : ∃ M, M = valN q * 60 ^ 8 := ⟨_, rfl⟩
    rw [← hNe] at w1 l1 ⊢
    rw [← hMe] at w2 l2 ⊢
    clear hNe hMe
    clear q1 q2 hp hq b1 b2 h14
    have z1 : N / 60 ^ 168 = M / 60 ^ 168 := by rw [Nat.div_eq_of_lt l1, Nat.div_eq_of_lt l2]
    clear l1 l2
    refine gP @h15 ?_
    refine cnd (fun h => ?_) (fun h => ?_)
    · simp at h
    clear h
    refine gPASW (aI @h2 <|aI @h3 <|aI @r2 <|aI @r3 <|aI @ho <|aI @co86 <|aI @sr86 <|aI @w1.iffx <|aI @w2.iffx <|aI @rowsOf_aggl <|@ptrs_aggl) ?_
    obtain ⟨g9, hg9⟩ : ∃ g, s.m.gen 9 0 + 1 = g := ⟨_, rfl⟩
    obtain ⟨g10, hg10⟩ : ∃ g, s.m.gen 10 0 + 1 = g := ⟨_, rfl⟩
    refine W_loopg (fun (k : Nat) s => s.dfs = [] ∧ s.m.out.length = 0 ∧ s.t.get 9 = .ptr ⟨0, 9, 0, g9⟩ 0 0 ∧ s.t.get 10 = .ptr ⟨0, 10, 0, g10⟩ 0 0 ∧ s.t.get 11 = vi ((k : Int) - 1) ∧
      s.m.row ⟨0, 9, 0, g9⟩ = some ⟨g9, 100, false, false, [wv N]⟩ ∧ s.m.row ⟨0, 10, 0, g10⟩ = some ⟨g10, 100, false, false, [wv M]⟩ ∧ k ≤ 168 ∧ N / 60 ^ k = M / 60 ^ k) (fun k => k) 168 ?_ ?_
    · refine ⟨hd, ?_, ?_, ?_, ?_, ?_, ?_, Nat.le_refl _, z1⟩
      all_goals (try refine fW (aI @h2 <|aI @h3 <|aI @r2 <|aI @r3 <|aI @ho <|aI @hg9 <|@hg10) ?_);all_goals try exact True.intro
      all_goals rfl
    clear hd ho h2 h3 h15 r2 r3 w1 w2 z1 hg9 hg10
    rintro k s ⟨hd, ho, h9, h10, h11, r9, r10, hk, hq⟩
    refine gP @h11 ?_
    refine cnd (fun h => ?_) (fun h => ?_)
    · have hk0 : 0 < k := by have := of_decide_eq_true h; omega
      obtain ⟨i, rfl⟩ : ∃ i, k = i + 1 := ⟨k - 1, by omega⟩
      clear h
      have h11' : s.t.get 11 = vn i := by rw [h11]; congr 1; omega
      clear h11
      have hi168 : i < 168 := by omega
      have g1 : (wc (dig N))[i]? = some (vn (dig N i)) := wc_get _ hi168
      have g2 : (wc (dig M))[i]? = some (vn (dig M i)) := wc_get _ hi168
      have hin : (i : Int) < (168 : Int) := by omega
      have hin2 : (i : Int) < ((168 : Nat) : Int) := by omega
      have hi0 : (0 : Int) ≤ (i : Int) := by omega
      have d1 := div_succ N i
      have d2 := div_succ M i
      have e4 : V.int .i64 (wr .i64 ((i : Int) - 1)) = vi ((i : Int) - 1) := by rw [wr_i64 (by omega) (by omega)]
      generalize hx : dig N i = x at *
      generalize hy : dig M i = y at *
      by_cases c1 : (x : Int) < (y : Int)
      · have hlt : N < M := div_lt_lt (k := i) (by omega)
        have hcm : cmpN N M = -1 := by rw [cmpN, if_pos hlt]
        rw [hcm]
        clear d1 d2 hq
        refine gPASW (aI @h9 <|aI @h10 <|aI @h11' <|aI @r9 <|aI @r10 <|aI @ho <|aI @g1 <|aI @g2 <|aI @hi168 <|aI @hin <|aI @hin2 <|aI @hi0 <|@c1) ?_
        refine cnd (fun h => ?_) (fun h => ?_)
        · refine gP @Nat.zero_add ?_
          refine rP hd @Tryd.results57 ?_
          try exact True.intro
        · simp at h
      by_cases c2 : (x : Int) > (y : Int)
      · have hlt : M < N := div_lt_lt (k := i) (by omega)
        have hcm : cmpN N M = 1 := by rw [cmpN, if_neg (by omega), if_pos hlt]
        rw [hcm]
        clear d1 d2 hq
        refine gPASW (aI @h9 <|aI @h10 <|aI @h11' <|aI @r9 <|aI @r10 <|aI @ho <|aI @g1 <|aI @g2 <|aI @hi168 <|aI @hin <|aI @hin2 <|aI @hi0 <|@c1) ?_
        refine cnd (fun h => ?_) (fun h => ?_)
        · simp at h
        refine gPASW (aI @h9 <|aI @h10 <|aI @h11' <|aI @r9 <|aI @r10 <|aI @ho <|aI @g1 <|aI @g2 <|aI @hi168 <|aI @hin <|aI @hin2 <|aI @hi0 <|@c2) ?_
        refine cnd (fun h => ?_) (fun h => ?_)
        · refine gP @Nat.zero_add ?_
          refine rP hd @Tryd.results57 ?_
          try exact True.intro
        · simp at h
      have hqi : N / 60 ^ i = M / 60 ^ i := by omega
      clear d1 d2 hq
      refine gPASW (aI @h9 <|aI @h10 <|aI @h11' <|aI @r9 <|aI @r10 <|aI @ho <|aI @g1 <|aI @g2 <|aI @hi168 <|aI @hin <|aI @hin2 <|aI @hi0 <|@c1) ?_
      refine cnd (fun h => ?_) (fun h => ?_)
      · simp at h
      refine gPASW (aI @h9 <|aI @h10 <|aI @h11' <|aI @r9 <|aI @r10 <|aI @ho <|aI @g1 <|aI @g2 <|aI @hi168 <|aI @hin <|aI @hin2 <|aI @hi0 <|@c2) ?_
      refine cnd (fun h => ?_) (fun h => ?_)
      · simp at h
      refine gP (aI @h11' <|@e4) ?_
      refine ⟨i, ⟨hd, ?_, ?_, ?_, ?_, ?_, ?_, by omega, hqi⟩, by omega⟩
      all_goals (try refine f0 (aI @h9 <|aI @h10 <|aI @r9 <|aI @r10 <|@ho) ?_);all_goals try exact True.intro
    · have hk0 : k = 0 := by have := of_decide_eq_false h; omega
      subst hk0
      rw [Nat.pow_zero, Nat.div_one, Nat.div_one] at hq
      have hcm : cmpN N M = 0 := by rw [cmpN, if_neg (by omega), if_neg (by omega)]
      rw [hcm]
      refine gP @Nat.zero_add ?_
      refine rP hd @Tryd.results57 ?_
      try exact True.intro
end Go.Proofs.YtpocekfifokndaaDoor
namespace Go.Proofs.YtpocekfifokndaaDoor
open Go Go.Ev Go.Pl
set_option maxRecDepth 100000
set_option maxHeartbeats 4000000
def plT (n : Nat) (D : Nat → Nat) (k v : Nat) : List Nat := tab n fun j => if j < k then D j else if j = k then v else 0
theorem plT_length (n : Nat) (D : Nat → Nat) (k v : Nat) : (plT n D k v).length = n := tab_length _ _
theorem plT_get {n k : Nat} (D : Nat → Nat) (v : Nat) (h : k < n) : (plT n D k v)[k]? = some v := by
  rw [plT, tab_get? h, if_neg (by omega), if_pos rfl]
theorem plT_set (n : Nat) (D : Nat → Nat) (k v w : Nat) : (plT n D k v).set k w = plT n D k w := by
  rw [plT, tab_set]
  refine tab_congr fun j _ => ?_
  by_cases e : j = k
  · subst e; simp
  · rw [if_neg e, if_neg e, if_neg e]
theorem plT_next {n k : Nat} (D : Nat → Nat) : plT n D k (D k) = plT n D (k + 1) 0 := by
  refine tab_congr fun j _ => ?_
  by_cases e : j = k
  · subst e; rw [if_neg (by omega), if_pos rfl, if_pos (by omega)]
  · by_cases c : j < k
    · rw [if_pos c, if_pos (by omega)]
    · rw [if_neg c, if_neg e, if_neg (by omega)]; split <;> rfl
theorem P110 (N M : Nat) (hl : (canL N).length < 400) (hl2 : (canL M).length < 400) : Ans X 110 [.sl (nats (canL N)), .sl (nats (canL M))] (.ret (.sl (nats (canL (N + M))))) := by
  refine call_of_X (fn := Tryd.f110) 2 Tryd.func110 rfl (by decide +kernel) rfl ?_ ?_ ?_ ?_
  · rfl
  · intro h; exact absurd h (by rw [sr110]; decide)
  · intro v hv; injection hv with hv; subst hv; rfl
  intro s hs hd ho
  have hm : s.m = ⟨.nil, []⟩ := by subst hs; rfl
  have h0 : s.t.get 0 = .sl (nats (canL N)) := by subst hs; rfl
  have h1 : s.t.get 1 = .sl (nats (canL M)) := by subst hs; rfl
  clear hs
  have hgN : ∀ i, i < (canL N).length → (canL N)[i]? = some (dig N i) := fun i hi => by
    conv => lhs; rw [canL_tab]
    exact tab_get? hi
  have hgM : ∀ i, i < (canL M).length → (canL M)[i]? = some (dig M i) := fun i hi => by
    conv => lhs; rw [canL_tab]
    exact tab_get? hi
  have hN : N < 60 ^ (canL N).length := canL_length_le.1 (Nat.le_refl _)
  have hM : M < 60 ^ (canL M).length := canL_length_le.1 (Nat.le_refl _)
  have zN : ∀ i, (canL N).length ≤ i → dig N i = 0 := fun i hi => top_zero hi
  have zM : ∀ i, (canL M).length ≤ i → dig M i = 0 := fun i hi => top_zero hi
  generalize canL N = L at *
  generalize canL M = L' at *
  generalize ha : L.length = a at *
  generalize hb : L'.length = b at *
  obtain ⟨n, hn⟩ : ∃ n, n = (if b > a then b else a) + 1 := ⟨_, rfl⟩
  have hn1 : a < n ∧ b < n ∧ n ≤ 400 := by split at hn <;> omega
  have hmx : V.int .i64 (wr .i64 ((if (b : Int) > (a : Int) then (b : Int) else (a : Int)) + 1)) = vn n := by
    rw [wr_i64 (by split <;> omega) (by split <;> omega)]
    congr 1
    rw [hn]; split <;> split <;> omega
  have hS : N + M < 60 ^ n := by
    have e1 : (60 : Nat) ^ a ≤ 60 ^ (n - 1) := Nat.pow_le_pow_right (by decide) (by omega)
    have e2 : (60 : Nat) ^ b ≤ 60 ^ (n - 1) := Nat.pow_le_pow_right (by decide) (by omega)
    have e3 : (60 : Nat) ^ n = 60 ^ (n - 1) * 60 := by rw [← Nat.pow_succ]; congr 1; omega
    omega
  clear hn hN hM
  refine gPS (aI @nats_zero <|aI @h0 <|aI @h1 <|aI @hm <|aI @nats_length <|aI @ha <|aI @hb <|@hmx) ?_
  refine W_loopg (fun (k : Nat) s => s.dfs = [] ∧ s.m.out.length = 0 ∧ s.t.get 0 = .sl (nats L) ∧ s.t.get 1 = .sl (nats L') ∧ s.t.get 5 = .rs ⟨0, 13, 0, 1⟩ 3 0 n ∧ s.t.get 6 = vn k ∧ k ≤ n ∧
    s.m.row ⟨0, 13, 0, 1⟩ = some ⟨1, 3, true, false, nats (plT n (dig (N + M)) k ((N % 60 ^ k + M % 60 ^ k) / 60 ^ k))⟩) (fun k => n - k) 0 ?_ ?_
  · refine ⟨hd, ?_, ?_, ?_, ?_, ?_, Nat.zero_le _, ?_⟩
    all_goals (try refine f0 (aI @h0 <|aI @h1 <|@hm) ?_);all_goals try exact True.intro
    all_goals first | rfl | (simp [plT, Nat.mod_one, tab_const])
  clear hd ho hm h0 h1
  rintro k s ⟨hd, ho, h0, h1, h5, h6, hk, r13⟩
  refine gP (aI @h5 <|@h6) ?_
  refine cnd (fun h => ?_) (fun h => ?_)
  · have hk' : k < n := by have := of_decide_eq_true h; omega
    clear h
    obtain ⟨s1, s2⟩ := plus_step N M k
    have hcb : (N % 60 ^ k + M % 60 ^ k) / 60 ^ k ≤ 1 := by
      have h1 := Nat.mod_lt N (pow_pos k)
      have h2 := Nat.mod_lt M (pow_pos k)
      have h3 : (N % 60 ^ k + M % 60 ^ k) / 60 ^ k < 2 := Nat.div_lt_of_lt_mul (by omega)
      omega
    have hz : n ≤ k + 1 → (N % 60 ^ (k + 1) + M % 60 ^ (k + 1)) / 60 ^ (k + 1) = 0 := fun h => by
      obtain rfl : n = k + 1 := by omega
      have h1 := Nat.mod_le N (60 ^ (k + 1))
      have h2 := Nat.mod_le M (60 ^ (k + 1))
      exact Nat.div_eq_of_lt (by omega)
    have hdN := dig_lt N k
    have hdM := dig_lt M k
    have hzN := zN k
    have hzM := zM k
    have gN := hgN k
    have gM := hgM k
    generalize hc : (N % 60 ^ k + M % 60 ^ k) / 60 ^ k = c at *
    generalize hc' : (N % 60 ^ (k + 1) + M % 60 ^ (k + 1)) / 60 ^ (k + 1) = c' at *
    generalize dig N k = x at *
    generalize dig M k = y at *
    have hkn : (k : Int) < (n : Int) := by omega
    have hk0 : (0 : Int) ≤ (k : Int) := by omega
    have e1 : V.int .i64 (wr .i64 ((k : Int) + 1)) = vn (k + 1) := by rw [wr_i64 (by omega) (by omega)]; rfl
    refine gPS (aI @h0 <|aI @h6 <|aI @nats_length <|@ha) ?_
    refine W_mid (fun s' => s'.dfs = [] ∧ s'.m.out.length = 0 ∧ s'.t.get 0 = .sl (nats L) ∧ s'.t.get 1 = .sl (nats L') ∧ s'.t.get 5 = .rs ⟨0, 13, 0, 1⟩ 3 0 n ∧ s'.t.get 6 = vn k ∧
      s'.m.row ⟨0, 13, 0, 1⟩ = some ⟨1, 3, true, false, nats (plT n (dig (N + M)) k (c + x))⟩) ?_ ?_
    · refine cnd (fun h => ?_) (fun h => ?_)
      · have hka : k < a := by have := of_decide_eq_true h; omega
        have hka' : (k : Int) < (a : Int) := by omega
        have g := gN hka
        have gr := plT_get (n := n) (dig (N + M)) c hk'
        have w1 : V.int .i64 (wr .i64 ((c : Int) + (x : Int))) = vn (c + x) := by rw [cast_add, wr_nat (by omega)]
        clear s1 s2 hz hzN hzM gN gM hgN hgM zN zM h
        refine gPS (aI @h0 <|aI @h1 <|aI @h5 <|aI @h6 <|aI @r13 <|aI @ho <|aI @nats_length <|aI @nats_get? <|aI @nats_set <|aI @ha <|aI @g <|aI @gr <|aI @plT_set <|aI @plT_length <|aI @hka <|aI @hka' <|aI @hkn <|aI @hk' <|aI @hk0 <|@w1) ?_
        refine ⟨hd, ?_, ?_, ?_, ?_, ?_, ?_⟩
        all_goals (try refine fS (aI @h0 <|aI @h1 <|aI @h5 <|aI @h6 <|@ho) ?_);all_goals try exact True.intro
      · have hka : a ≤ k := by have := of_decide_eq_false h; omega
        rw [hzN hka, Nat.add_zero]
        refine gP @Nat.zero_add ?_
        refine ⟨hd, ?_, ?_, ?_, ?_, ?_, ?_⟩
        all_goals (try refine fS (aI @h0 <|aI @h1 <|aI @h5 <|aI @h6 <|aI @r13 <|@ho) ?_);all_goals try exact True.intro
    clear hd ho h0 h1 h5 h6 r13
    rintro s ⟨hd, ho, h0, h1, h5, h6, r13⟩
    refine gPS (aI @h1 <|aI @h6 <|aI @nats_length <|@hb) ?_
    refine W_mid (fun s' => s'.dfs = [] ∧ s'.m.out.length = 0 ∧ s'.t.get 0 = .sl (nats L) ∧ s'.t.get 1 = .sl (nats L') ∧ s'.t.get 5 = .rs ⟨0, 13, 0, 1⟩ 3 0 n ∧ s'.t.get 6 = vn k ∧
      s'.m.row ⟨0, 13, 0, 1⟩ = some ⟨1, 3, true, false, nats (plT n (dig (N + M)) k (c + x + y))⟩) ?_ ?_
    · refine cnd (fun h => ?_) (fun h => ?_)
      · have hka : k < b := by have := of_decide_eq_true h; omega
        have hka' : (k : Int) < (b : Int) := by omega
        have g := gM hka
        have gr := plT_get (n := n) (dig (N + M)) (c + x) hk'
        have w1 : V.int .i64 (wr .i64 (((c + x : Nat) : Int) + (y : Int))) = vn (c + x + y) := by rw [cast_add, wr_nat (by omega)]
        clear s1 s2 hz hzN hzM gN gM hgN hgM zN zM h
        refine gPS (aI @h0 <|aI @h1 <|aI @h5 <|aI @h6 <|aI @r13 <|aI @ho <|aI @nats_length <|aI @nats_get? <|aI @nats_set <|aI @hb <|aI @g <|aI @gr <|aI @plT_set <|aI @plT_length <|aI @hka <|aI @hka' <|aI @hkn <|aI @hk' <|aI @hk0 <|@w1) ?_
        refine ⟨hd, ?_, ?_, ?_, ?_, ?_, ?_⟩
        all_goals (try refine fS (aI @h0 <|aI @h1 <|aI @h5 <|aI @h6 <|@ho) ?_);all_goals try exact True.intro
      · have hka : b ≤ k := by have := of_decide_eq_false h; omega
        rw [hzM hka, Nat.add_zero]
        refine gP @Nat.zero_add ?_
        refine ⟨hd, ?_, ?_, ?_, ?_, ?_, ?_⟩
        all_goals (try refine fS (aI @h0 <|aI @h1 <|aI @h5 <|aI @h6 <|aI @r13 <|@ho) ?_);all_goals try exact True.intro
    clear hd ho h0 h1 h5 h6 r13
    rintro s ⟨hd, ho, h0, h1, h5, h6, r13⟩
    have gr := plT_get (n := n) (dig (N + M)) (c + x + y) hk'
    generalize hv : c + x + y = v at *
    have hv120 : v < 120 := by omega
    clear gN gM hgN hgM zN zM hzN hzM
    refine gPS (aI @h5 <|aI @h6 <|aI @r13 <|aI @ho <|aI @nats_length <|aI @nats_get? <|aI @gr <|aI @plT_length <|aI @hkn <|aI @hk' <|@hk0) ?_
    refine cnd (fun h => ?_) (fun h => ?_)
    · have hv60 : 60 ≤ v := by have := of_decide_eq_true h; omega
      have d1 : v - 60 = dig (N + M) k := by omega
      have d2 : c' = 1 := by omega
      have hk1 : k + 1 < n := by
        rcases Nat.lt_or_ge (k + 1) n with h | h
        · exact h
        · have := hz h; omega
      have hk1' : ((k + 1 : Nat) : Int) < (n : Int) := by omega
      have hk10 : (0 : Int) ≤ ((k + 1 : Nat) : Int) := by omega
      have w1 : V.int .i64 (wr .i64 ((v : Int) - 60)) = vn (dig (N + M) k) := by rw [wr_i64 (by omega) (by omega)]; congr 1; omega
      have gr2 := plT_get (n := n) (dig (N + M)) 0 hk1
      have w2 : ∀ r, (nats (plT n (dig (N + M)) (k + 1) r)).set (k + 1) (V.int .i64 1) = nats (plT n (dig (N + M)) (k + 1) 1) := fun r => by
        rw [show V.int .i64 1 = vn 1 from rfl, nats_set, plT_set]
      clear s1 s2 hz h hv
      refine gPS (aI @h5 <|aI @h6 <|aI @r13 <|aI @ho <|aI @nats_length <|aI @nats_get? <|aI @nats_set <|aI @gr <|aI @gr2 <|aI @plT_set <|aI @plT_next <|aI @plT_length <|aI @hkn <|aI @hk' <|aI @hk0 <|aI @hk1 <|aI @hk1' <|aI @hk10 <|aI @w1 <|aI @w2 <|@e1) ?_
      refine ⟨k + 1, ⟨hd, ?_, ?_, ?_, ?_, ?_, hk', ?_⟩, by omega⟩
      all_goals (try refine fS (aI @h0 <|aI @h1 <|aI @h5 <|aI @ho <|aI @hc' <|@d2) ?_);all_goals try exact True.intro
    · have hv60 : v < 60 := by have := of_decide_eq_false h; omega
      have d1 : v = dig (N + M) k := by omega
      have d2 : c' = 0 := by omega
      rw [d1, plT_next] at r13
      clear s1 s2 hz h hv
      refine gP (aI @h6 <|@e1) ?_
      refine ⟨k + 1, ⟨hd, ?_, ?_, ?_, ?_, ?_, hk', ?_⟩, by omega⟩
      all_goals (try refine fS (aI @h0 <|aI @h1 <|aI @h5 <|aI @r13 <|aI @ho <|aI @hc' <|@d2) ?_);all_goals try exact True.intro
  · have hkn : k = n := by have := of_decide_eq_false h; omega
    subst hkn
    have ht : plT k (dig (N + M)) k ((N % 60 ^ k + M % 60 ^ k) / 60 ^ k) = tab k (dig (N + M)) := tab_congr fun j hj => if_pos hj
    rw [ht] at r13
    have hcut : cut (nats (tab k (dig (N + M)))) 0 k = nats (tab k (dig (N + M))) := by
      have := cut_nats (tab k (dig (N + M)))
      rwa [tab_length] at this
    have q := P135 (tab k (dig (N + M))) (by rw [tab_length]; omega)
    rw [trim_tab hS] at q
    clear h
    refine gPS (aI @h5 <|aI @r13 <|aI @ho <|aI @hcut <|aI @nats_length <|aI @tab_length <|aI @co135 <|aI @sr135 <|@q.iffx) ?_
    refine rPS hd (aI @Tryd.results110 <|@ho) ?_
    try exact True.intro
end Go.Proofs.YtpocekfifokndaaDoor
namespace Go.Proofs.YtpocekfifokndaaDoor
open Go Go.Ev Go.Pl
set_option maxRecDepth 100000
set_option maxHeartbeats 4000000
theorem canL_pow (k : Nat) : canL (60 ^ k) = List.replicate k 0 ++ [1] := by
  have h := canL_shift (N := 1) (by decide) k
  rw [Nat.one_mul] at h
  rw [h]
  congr 1
  rw [canL_pos (by decide), show 1 / 60 = 0 from rfl, canL_zero]
theorem P108 (k : Nat) (hk : k < 500) : Ans X 108 [vn k] (.ret (.sl (nats (canL (60 ^ k))))) := by
  refine call_of_X (fn := Tryd.f108) 1 Tryd.func108 rfl (by decide +kernel) rfl ?_ ?_ ?_ ?_
  · rfl
  · intro h; exact absurd h (by rw [sr108]; decide)
  · intro v hv; injection hv with hv; subst hv; rfl
  intro s hs hd ho
  have hm : s.m = ⟨.nil, []⟩ := by subst hs; rfl
  have h0 : s.t.get 0 = vn k := by subst hs; rfl
  clear hs
  have e1 : V.int .i64 (wr .i64 ((k : Int) + 1)) = vn (k + 1) := by rw [wr_i64 (by omega) (by omega)]; rfl
  have hset : (nats (List.replicate (k + 1) 0)).set k (V.int .i64 1) = nats (canL (60 ^ k)) := by
    rw [show V.int .i64 1 = vn 1 from rfl, nats_set, canL_pow]
    congr 1
    rw [List.replicate_succ', List.set_append_right _ _ (by simp)]
    simp
  have hg : (nats (List.replicate (k + 1) 0))[k]? = some (vn 0) := by rw [nats_get?]; simp
  have hlen : (canL (60 ^ k)).length = k + 1 := by rw [canL_pow]; simp
  have hcut : cut (nats (canL (60 ^ k))) 0 (k + 1) = nats (canL (60 ^ k)) := by
    have := cut_nats (canL (60 ^ k))
    rwa [hlen] at this
  have hk1 : (k : Int) < ((k + 1 : Nat) : Int) := by omega
  have hk2 : k < k + 1 := by omega
  have hk0 : (0 : Int) ≤ (k : Int) := by omega
  refine gPS (aI @nats_zero <|aI @h0 <|aI @hm <|@e1) ?_
  refine gPS (aI @nats_zero <|aI @h0 <|aI @hm <|aI @e1 <|aI @nats_length <|aI @List.length_replicate.{0} <|aI @hg <|aI @hset <|aI @hk1 <|aI @hk2 <|@hk0) ?_
  refine rPAS hd (aI @Tryd.results108 <|aI @hm <|aI @nats_length <|aI @hlen <|@hcut) ?_
  try exact True.intro
theorem P44e (n d : Int) (hbad : n < 1 ∨ n > 1099511627776 ∨ d < 1 ∨ d > 8) : Ans X 44 [vi n, vi d] (.ret (.tup [.agg [.sl [], vi 0], .agg [.sl [], vi 0], vi 8])) := by
  refine call_of_X (fn := Tryd.f44) 2 Tryd.func44 rfl (by decide +kernel) rfl ?_ ?_ ?_ ?_
  · rfl
  · intro h; exact absurd h (by rw [sr44]; decide)
  · intro v hv; injection hv with hv; subst hv; rfl
  intro s hs hd ho
  have hm : s.m = ⟨.nil, []⟩ := by subst hs; rfl
  have h0 : s.t.get 0 = vi n := by subst hs; rfl
  have h1 : s.t.get 1 = vi d := by subst hs; rfl
  clear hs
  by_cases c1 : n < 1 <;> by_cases c2 : n > 1099511627776 <;> by_cases c3 : d < 1 <;> by_cases c4 : d > 8
  all_goals try (exfalso; omega)
  all_goals
    refine gPA (aI @h0 <|aI @h1 <|aI @hm <|aI @c1 <|aI @c2 <|aI @c3 <|@c4) ?_
    refine cnd (fun h => ?_) (fun h => ?_)
    · refine gPA @hm ?_
      refine rPAS hd (aI @Tryd.results44 <|@hm) ?_
      try exact True.intro
      rfl
    · simp at h
theorem P45e (n d : Int) (hbad : n < 1 ∨ n > 1099511627776 ∨ d < 1 ∨ d > 8) : Ans X 45 [vi n, vi d] (.ret (.tup [.agg [.sl [], vi 0], .agg [.sl [], vi 0], vi 8])) := by
  refine call_of_X (fn := Tryd.f45) 2 Tryd.func45 rfl (by decide +kernel) rfl ?_ ?_ ?_ ?_
  · rfl
  · intro h; exact absurd h (by rw [sr45]; decide)
  · intro v hv; injection hv with hv; subst hv; rfl
  intro s hs hd ho
  have hm : s.m = ⟨.nil, []⟩ := by subst hs; rfl
  have h0 : s.t.get 0 = vi n := by subst hs; rfl
  have h1 : s.t.get 1 = vi d := by subst hs; rfl
  clear hs
  by_cases c1 : n < 1 <;> by_cases c2 : n > 1099511627776 <;> by_cases c3 : d < 1 <;> by_cases c4 : d > 8
  all_goals try (exfalso; omega)
  all_goals
    refine gPA (aI @h0 <|aI @h1 <|aI @hm <|aI @c1 <|aI @c2 <|aI @c3 <|@c4) ?_
    refine cnd (fun h => ?_) (fun h => ?_)
    · refine gPA @hm ?_
      refine rPAS hd (aI @Tryd.results45 <|@hm) ?_
      try exact True.intro
      rfl
    · simp at h
end Go.Proofs.YtpocekfifokndaaDoor
namespace Go.Proofs.YtpocekfifokndaaDoor
open Go Go.Ev Go.Pl
set_option maxRecDepth 100000
set_option maxHeartbeats 4000000
theorem P46e (n d : Int) (hbad : n < 1 ∨ n > 1099511627776 ∨ d < 1 ∨ d > 5) : Ans X 46 [vi n, vi d] (.ret (.tup [.agg [.sl [], vi 0], vi 8])) := by
  refine call_of_X (fn := Tryd.f46) 2 Tryd.func46 rfl (by decide +kernel) rfl ?_ ?_ ?_ ?_
  · rfl
  · intro h; exact absurd h (by rw [sr46]; decide)
  · intro v hv; injection hv with hv; subst hv; rfl
  intro s hs hd ho
  have hm : s.m = ⟨.nil, []⟩ := by subst hs; rfl
  have h0 : s.t.get 0 = vi n := by subst hs; rfl
  have h1 : s.t.get 1 = vi d := by subst hs; rfl
  clear hs
  by_cases c1 : n < 1 <;> by_cases c2 : n > 1099511627776 <;> by_cases c3 : d < 1 <;> by_cases c4 : d > 5
  all_goals try (exfalso; omega)
  all_goals
    refine gPA (aI @h0 <|aI @h1 <|aI @hm <|aI @c1 <|aI @c2 <|aI @c3 <|@c4) ?_
    refine cnd (fun h => ?_) (fun h => ?_)
    · refine gPA @hm ?_
      refine rPAS hd (aI @Tryd.results46 <|@hm) ?_
      try exact True.intro
      rfl
    · simp at h
theorem P47e (n d : Int) (hbad : n < 1 ∨ n > 1099511627776 ∨ d < 1 ∨ d > 5) : Ans X 47 [vi n, vi d] (.ret (.tup [.agg [.sl [], vi 0], vi 8])) := by
  refine call_of_X (fn := Tryd.f47) 2 Tryd.func47 rfl (by decide +kernel) rfl ?_ ?_ ?_ ?_
  · rfl
  · intro h; exact absurd h (by rw [sr47]; decide)
  · intro v hv; injection hv with hv; subst hv; rfl
  intro s hs hd ho
  have hm : s.m = ⟨.nil, []⟩ := by subst hs; rfl
  have h0 : s.t.get 0 = vi n := by subst hs; rfl
  have h1 : s.t.get 1 = vi d := by subst hs; rfl
  clear hs
  by_cases c1 : n < 1 <;> by_cases c2 : n > 1099511627776 <;> by_cases c3 : d < 1 <;> by_cases c4 : d > 5
  all_goals try (exfalso; omega)
  all_goals
    refine gPA (aI @h0 <|aI @h1 <|aI @hm <|aI @c1 <|aI @c2 <|aI @c3 <|@c4) ?_
    refine cnd (fun h => ?_) (fun h => ?_)
    · refine gPA @hm ?_
      refine rPAS hd (aI @Tryd.results47 <|@hm) ?_
      try exact True.intro
      rfl
    · simp at h
theorem P47 (n d : Nat) (hn0 : 0 < n) (hn : n ≤ 1099511627776) (hd0 : 0 < d) (hd5 : d ≤ 5) : Ans X 47 [vn n, vn d] (.ret (.tup [shV (rt (rootX n d).1) (rootX n d).2, vi 0])) := by
  refine call_of_X (fn := Tryd.f47) 2 Tryd.func47 rfl (by decide +kernel) rfl ?_ ?_ ?_ ?_
  · rfl
  · intro h; exact absurd h (by rw [sr47]; decide)
  · intro v hv; injection hv with hv; subst hv; rfl
  intro s hs hd ho
  have hm : s.m = ⟨.nil, []⟩ := by subst hs; rfl
  have h0 : s.t.get 0 = vn n := by subst hs; rfl
  have h1 : s.t.get 1 = vn d := by subst hs; rfl
  clear hs
  have c1 : ¬ ((n : Int) < 1) := by omega
  have c2 : ¬ ((n : Int) > 1099511627776) := by omega
  have c3 : ¬ ((d : Int) < 1) := by omega
  have c4 : ¬ ((d : Int) > 5) := by omega
  have hL1 : ∀ x : Nat, d < (canL (rt x)).length ↔ 60 ^ d ≤ rt x := fun x => by
    have := canL_length_le (N := rt x) (n := d); omega
  have hL2 : ∀ x : Nat, (canL (rt x)).length < d ↔ rt x < 60 ^ (d - 1) := fun x => by
    have := canL_length_le (N := rt x) (n := d - 1); omega
  have hB1 : 60 ^ (d - 1) ≤ 60 ^ 4 := Nat.pow_le_pow_right (by decide) (by omega)
  have hBp : 0 < 60 ^ (d - 1) := pow_pos _
  have hB0 : 60 ≤ 60 ^ d := by
    calc 60 = 60 ^ 1 := rfl
      _ ≤ 60 ^ d := Nat.pow_le_pow_right (by decide) hd0
  rw [rootX]
  generalize 60 ^ (d - 1) = B' at *
  generalize 60 ^ d = B at *
  generalize hRd : rdn B 8 n 0 = R
  refine gPA (aI @h0 <|aI @h1 <|aI @hm <|aI @c1 <|aI @c2 <|aI @c3 <|@c4) ?_
  refine cnd (fun h => ?_) (fun h => ?_)
  · simp at h
  clear h c1 c2 c3 c4
  refine gPA (aI @h0 <|aI @h1 <|@hm) ?_
  refine W_loopg (fun (x : Nat × Nat) s => s.dfs = [] ∧ s.m.out.length = 0 ∧ s.t.get 1 = vn d ∧ s.t.get 4 = .ptr ⟨0, 4, 0, 1⟩ 0 0 ∧ s.t.get 0 = vn x.1 ∧ s.t.get 6 = vn x.2 ∧ s.m.row ⟨0, 4, 0, 1⟩ = some ⟨1, 54, false, false, [.agg [.rs ⟨0, 4, 1, 1⟩ 0 0 0, vi 0]]⟩ ∧
    x.2 ≤ 8 ∧ 0 < x.1 ∧ x.1 * 3600 ^ x.2 ≤ n ∧ R = rdn B (8 - x.2) x.1 x.2) (fun x => x.1) (n, 0) ?_ ?_
  · refine ⟨hd, ?_, ?_, ?_, ?_, ?_, ?_, Nat.zero_le _, hn0, by simp, hRd.symm⟩
    all_goals (try refine f0 (aI @h0 <|aI @h1 <|@hm) ?_);all_goals try exact True.intro
    all_goals rfl
  clear hd h0 h1 hm ho hRd
  rintro ⟨x, k⟩ s ⟨hd, ho, h1, h4, h0, h6, r4, hk, hx0, hxn, hr⟩
  dsimp only at h0 h6 hk hx0 hxn hr
  have hxle : x ≤ n := Nat.le_trans (Nat.le_mul_of_pos_right _ (Nat.pow_pos (by decide))) hxn
  have hrtx : rt x < 9000000000000000000 := by
    have := (rt_spec x).1
    rcases Nat.lt_or_ge (rt x) 9000000000000000000 with h | h
    · exact h
    · have := sq_le h; omega
  have q1 := P112 x (by omega)
  have q95 := P95 (rt x) hrtx
  have hk8 : k < 8 := by
    rcases Nat.lt_or_ge k 8 with h | h
    · exact h
    · obtain rfl : k = 8 := by omega
      have : 3600 ^ 8 ≤ x * 3600 ^ 8 := Nat.le_mul_of_pos_left _ hx0
      omega
  have hLx := hL1 x
  refine gP (aI @h0 <|aI @h1 <|aI @ho <|aI @co112 <|aI @sr112 <|aI @q1.iffx <|aI @co95 <|aI @sr95 <|aI @q95.iffx <|@nats_length) ?_
  rw [show 8 - k = (8 - (k + 1)) + 1 by omega, rdn] at hr
  refine cnd (fun h => ?_) (fun h => ?_)
  · have hB : B ≤ rt x := hLx.1 (by have := of_decide_eq_true h; omega)
    rw [if_pos hB] at hr
    have hx3600 : 3600 ≤ x := by
      have := sq_le (show 60 ≤ rt x by omega)
      have := (rt_spec x).1
      omega
    have hdv : 0 < x / 3600 := Nat.div_pos hx3600 (by decide)
    have hlt : x / 3600 < x := Nat.div_lt_self hx0 (by decide)
    have hxn' : x / 3600 * 3600 ^ (k + 1) ≤ n := by
      have e1 : x / 3600 * 3600 ≤ x := Nat.div_mul_le_self x 3600
      rw [Nat.pow_succ, Nat.mul_comm (3600 ^ k), ← Nat.mul_assoc]
      exact Nat.le_trans (Nat.mul_le_mul_right _ e1) hxn
    have e1 : V.int .i64 (wr .i64 (Int.tdiv (x : Int) 3600)) = vn (x / 3600) := by
      rw [show Int.tdiv (x : Int) 3600 = ((x / 3600 : Nat) : Int) from rfl, wr_nat (by omega)]
    have e2 : V.int .i64 (wr .i64 ((k : Int) + 1)) = vn (k + 1) := by rw [wr_i64 (by omega) (by omega)]; rfl
    clear hxn hB hx3600
    repeat (first
      | with_reducible first | refine W_seq ?_ | refine W_skip ?_ | refine W_label ?_ | refine W_ret ?_ | refine W_exit ?_ | refine W_block ?_ | refine thenI ?_ | refine thenRet ?_ | refine thenExit ?_ | refine blockRet ?_ | refine blockI ?_ | refine blockExit ?_ | refine blockExitNe rfl ?_
      | (with_reducible refine W_region_k ?_
         intro K hK
         simp (maxSteps := 2000000) (disch := omega) only [SA, ofValue, ofCell, bin, intBin, un, idx, Go.Ev.builtin, calleeOf, V.isNilS, V.depthOk, depth1, V.ok1, V.isAgg, V.cells, isConst, Nat.reduceBEq, Nat.reduceEqDiff, ↓reduceIte, Nat.reduceLeDiff, Nat.reduceAdd, Nat.reduceMul, Nat.reduceSub, Nat.reduceLT, Int.reduceAdd, Int.reduceSub, Int.reduceMul, Int.reduceLT, Int.reduceLE, Int.reduceToNat, Int.reduceNeg, reduceIte, reduceCtorEq, SPx, h0, h6, e1, e2, Int.reduceEq]
         refine hK _ _ ?_
         clear hK K)
    )
    refine ⟨(x / 3600, k + 1), ⟨hd, ?_, ?_, ?_, ?_, ?_, ?_, by omega, hdv, hxn', hr⟩, hlt⟩
    all_goals (try refine f0 (aI @h1 <|aI @h4 <|aI @r4 <|@ho) ?_);all_goals try exact True.intro
  have hB : ¬ B ≤ rt x := fun e => by
    have := hLx.2 e
    have := of_decide_eq_false h
    omega
  rw [if_neg hB] at hr
  subst hr
  dsimp only
  clear h hB hxn hLx hL1
  generalize hRu : rup B' 8 x (k : Int) = R
  refine gP @Nat.zero_add ?_
  refine W_loopg (fun (y : Nat × Nat) s => s.dfs = [] ∧ s.m.out.length = 0 ∧ s.t.get 1 = vn d ∧ s.t.get 4 = .ptr ⟨0, 4, 0, 1⟩ 0 0 ∧ s.t.get 0 = vn y.1 ∧ s.t.get 6 = vi ((k : Int) - y.2) ∧ s.m.row ⟨0, 4, 0, 1⟩ = some ⟨1, 54, false, false, [.agg [.rs ⟨0, 4, 1, 1⟩ 0 0 0, vi 0]]⟩ ∧
    y.2 ≤ 8 ∧ 0 < y.1 ∧ 3600 ^ y.2 ≤ y.1 ∧ y.1 < 60 ^ 10 ∧ R = rup B' (8 - y.2) y.1 ((k : Int) - y.2)) (fun y => 60 ^ 10 - y.1) (x, 0) ?_ ?_
  · refine ⟨hd, ?_, ?_, ?_, ?_, ?_, ?_, Nat.zero_le _, hx0, hx0, by omega, by rw [← hRu]; simp⟩
    all_goals (try refine f0 (aI @h0 <|aI @h1 <|aI @h4 <|aI @h6 <|aI @r4 <|@ho) ?_);all_goals try exact True.intro
    all_goals simp
  clear hd ho h0 h1 h4 h6 r4 q1 q95 hRu
  rintro ⟨y, j⟩ s ⟨hd, ho, h1, h4, h0, h6, r4, hj, hy0, hyj, hyb, hr⟩
  dsimp only at h0 h6 hj hy0 hyj hyb hr
  have hrt : rt y < 60 ^ 5 := rt_lt (by omega)
  have q1 := P112 y (by omega)
  have q95 := P95 (rt y) (by omega)
  have hj8 : j < 8 := by
    rcases Nat.lt_or_ge j 8 with h | h
    · exact h
    · obtain rfl : j = 8 := by omega
      omega
  rw [show 8 - j = (8 - (j + 1)) + 1 by omega, rup] at hr
  have hLy := hL2 y
  refine gP (aI @h0 <|aI @h1 <|aI @ho <|aI @co112 <|aI @sr112 <|aI @q1.iffx <|aI @co95 <|aI @sr95 <|aI @q95.iffx <|@nats_length) ?_
  refine cnd (fun h => ?_) (fun h => ?_)
  · have hB : rt y < B' := hLy.1 (by have := of_decide_eq_true h; omega)
    rw [if_pos hB] at hr
    have hy4 : y < 60 ^ 8 := by
      have h1 := rt_lt_iff.1 hB
      have h2 := sq_le hB1
      exact Nat.lt_of_lt_of_le h1 h2
    have hyj' : 3600 ^ (j + 1) ≤ y * 3600 := by rw [Nat.pow_succ]; exact Nat.mul_le_mul_right _ hyj
    have e1 : V.int .i64 (wr .i64 (wr .i64 ((y : Int) * 60) * 60)) = vn (y * 3600) := by
      rw [show (y : Int) * 60 = ((y * 60 : Nat) : Int) from rfl, wr_nat (by omega), show ((y * 60 : Nat) : Int) * 60 = ((y * 60 * 60 : Nat) : Int) from rfl, wr_nat (by omega)]
      congr 2; omega
    have e2 : V.int .i64 (wr .i64 ((k : Int) - j - 1)) = vi ((k : Int) - ((j + 1 : Nat) : Int)) := by rw [wr_i64 (by omega) (by omega)]; congr 1; omega
    have hnum : y * 3600 < 60 ^ 10 ∧ 60 ^ 10 - y * 3600 < 60 ^ 10 - y ∧ 0 < y * 3600 := by omega
    have e3 : (k : Int) - j - 1 = (k : Int) - ((j + 1 : Nat) : Int) := by omega
    rw [e3] at hr
    clear hyj hB hy4 e3
    refine gP (aI @h0 <|aI @h6 <|aI @e1 <|@e2) ?_
    refine ⟨(y * 3600, j + 1), ⟨hd, ?_, ?_, ?_, ?_, ?_, ?_, by omega, hnum.2.2, hyj', hnum.1, hr⟩, hnum.2.1⟩
    all_goals (try refine f0 (aI @h1 <|aI @h4 <|aI @r4 <|@ho) ?_);all_goals try exact True.intro
  have hB : ¬ rt y < B' := fun e => by
    have := hLy.2 e
    have := of_decide_eq_false h
    omega
  rw [if_neg hB] at hr
  subst hr
  dsimp only
  have q2 := P109 (rt y) ((k : Int) - j) (Nat.lt_of_le_of_lt (canL_length_le.2 hrt) (by decide)) (by omega) (by omega)
  have hry := rt_pos hy0
  rw [shV_eq hry] at q2
  generalize decide (goodP (rt y) ((k : Int) - j)) = bo at q2
  unfold shV at q2 ⊢
  clear hB h hyj hyb hy0 hrt hry
  refine gPAS (aI @h0 <|aI @h1 <|aI @h4 <|aI @h6 <|aI @r4 <|aI @ho <|aI @co112 <|aI @sr112 <|aI @q1.iffx <|aI @co95 <|aI @sr95 <|aI @q95.iffx <|aI @co109 <|aI @sr109 <|@q2.iffx) ?_
  refine rPA hd (aI @Tryd.results47 <|aI @h4 <|aI @r4 <|@ho) ?_
  try exact True.intro
end Go.Proofs.YtpocekfifokndaaDoor
namespace Go.Proofs.YtpocekfifokndaaDoor
open Go Go.Ev Go.Pl
set_option maxRecDepth 100000
set_option maxHeartbeats 4000000
theorem sr165 : scalarRes Tryd.prog 165 = true := by kernel_rfl
theorem co165 : callOk Tryd.prog 165 = true := by kernel_rfl
theorem sr156 : scalarRes Tryd.prog 156 = true := by kernel_rfl
theorem co156 : callOk Tryd.prog 156 = true := by kernel_rfl
theorem sr146 : scalarRes Tryd.prog 146 = true := by kernel_rfl
theorem co146 : callOk Tryd.prog 146 = true := by kernel_rfl
theorem dec36 : ∀ k, k < 10 → List.take (k + 1 - k) (List.drop k ([48, 49, 50, 51, 52, 53, 54, 55, 56, 57, 97, 98, 99, 100, 101, 102, 103, 104, 105, 106, 107, 108, 109, 110, 111, 112, 113, 114, 115, 116, 117, 118, 119, 120, 121, 122] : List UInt8)) = decB k := by decide +kernel
theorem dec200 : ∀ k, k < 100 → 10 ≤ k → List.take (k * 2 + 2 - k * 2) (List.drop (k * 2) ([48, 48, 48, 49, 48, 50, 48, 51, 48, 52, 48, 53, 48, 54, 48, 55, 48, 56, 48, 57, 49, 48, 49, 49, 49, 50, 49, 51, 49, 52, 49, 53, 49, 54, 49, 55, 49, 56, 49, 57, 50, 48, 50, 49, 50, 50, 50, 51, 50, 52, 50, 53, 50, 54, 50, 55, 50, 56, 50, 57, 51, 48, 51, 49, 51, 50, 51, 51, 51, 52, 51, 53, 51, 54, 51, 55, 51, 56, 51, 57, 52, 48, 52, 49, 52, 50, 52, 51, 52, 52, 52, 53, 52, 54, 52, 55, 52, 56, 52, 57, 53, 48, 53, 49, 53, 50, 53, 51, 53, 52, 53, 53, 53, 54, 53, 55, 53, 56, 53, 57, 54, 48, 54, 49, 54, 50, 54, 51, 54, 52, 54, 53, 54, 54, 54, 55, 54, 56, 54, 57, 55, 48, 55, 49, 55, 50, 55, 51, 55, 52, 55, 53, 55, 54, 55, 55, 55, 56, 55, 57, 56, 48, 56, 49, 56, 50, 56, 51, 56, 52, 56, 53, 56, 54, 56, 55, 56, 56, 56, 57, 57, 48, 57, 49, 57, 50, 57, 51, 57, 52, 57, 53, 57, 54, 57, 55, 57, 56, 57, 57] : List UInt8)) = decB k := by decide +kernel
theorem P165 (n : Nat) (hn : n < 100) : Ans X 165 [vn n] (.ret (.str (decB n))) := by
  refine call_of_X (fn := Tryd.f165) 1 Tryd.func165 rfl (by decide +kernel) rfl ?_ ?_ ?_ ?_
  · rfl
  · exact fun _ => rfl
  · intro v hv; injection hv with hv; subst hv; rfl
  intro s hs hd ho
  have h0 : s.t.get 0 = vn n := by subst hs; rfl
  clear hs
  refine gP @h0 ?_
  refine cnd (fun h => ?_) (fun h => ?_)
  · have h := of_decide_eq_true h
    have e1 : V.int .i64 (wr .i64 ((n : Int) + 1)) = vn (n + 1) := by rw [wr_i64 (by omega) (by omega)]; rfl
    have hb : bounds 36 (some (vn n)) (some (vn (n + 1))) = some (n, n + 1) := by
      show (if (0 : Int) ≤ (n : Int) ∧ (n : Int) ≤ ((n + 1 : Nat) : Int) ∧ ((n + 1 : Nat) : Int) ≤ ((36 : Nat) : Int) then some ((n : Int).toNat, ((n + 1 : Nat) : Int).toNat) else none) = _
      rw [if_pos ⟨by omega, by omega, by omega⟩]
      rfl
    refine gP (aI @h0 <|aI @e1 <|@hb) ?_
    refine rP hd @Tryd.results165 ?_
    try exact True.intro
    exact congrArg V.str (dec36 n (by omega))
  · have h := of_decide_eq_false h
    have e1 : V.int .i64 (wr .i64 ((n : Int) * 2)) = vn (n * 2) := by rw [show (n : Int) * 2 = ((n * 2 : Nat) : Int) from rfl, wr_nat (by omega)]
    have e2 : V.int .i64 (wr .i64 (((n * 2 : Nat) : Int) + 2)) = vn (n * 2 + 2) := by rw [wr_i64 (by omega) (by omega)]; rfl
    have hb : bounds 200 (some (vn (n * 2))) (some (vn (n * 2 + 2))) = some (n * 2, n * 2 + 2) := by
      show (if (0 : Int) ≤ ((n * 2 : Nat) : Int) ∧ ((n * 2 : Nat) : Int) ≤ ((n * 2 + 2 : Nat) : Int) ∧ ((n * 2 + 2 : Nat) : Int) ≤ ((200 : Nat) : Int) then some (((n * 2 : Nat) : Int).toNat, ((n * 2 + 2 : Nat) : Int).toNat) else none) = _
      rw [if_pos ⟨by omega, by omega, by omega⟩]
      rfl
    refine g0 @Nat.zero_add ?_
    with_reducible refine W_region_k ?_
    intro K hK
    simp (maxSteps := 2000000) (disch := omega) only [SA, ofValue, ofCell, bin, intBin, un, idx, Go.Ev.builtin, calleeOf, V.isNilS, V.depthOk, depth1, V.ok1, V.isAgg, V.cells, isConst, Nat.reduceBEq, Nat.reduceEqDiff, ↓reduceIte, Nat.reduceLeDiff, Nat.reduceAdd, Nat.reduceMul, Nat.reduceSub, Nat.reduceLT, Int.reduceAdd, Int.reduceSub, Int.reduceMul, Int.reduceLT, Int.reduceLE, Int.reduceToNat, Int.reduceNeg, reduceIte, reduceCtorEq, SPx, h0, e1, e2, List.append_eq, List.cons_append, List.nil_append, hb]
    refine hK _ _ ?_
    clear hK K
    refine gP @Nat.zero_add ?_
    refine rP hd @Tryd.results165 ?_
    try exact True.intro
    exact congrArg V.str (dec200 n hn (by omega))
theorem P156 (n : Nat) (hn : n < 100) : Ans X 156 [vn n, vi 10] (.ret (.str (decB n))) := by
  refine call_of_X (fn := Tryd.f156) 2 Tryd.func156 rfl (by decide +kernel) rfl ?_ ?_ ?_ ?_
  · rfl
  · exact fun _ => rfl
  · intro v hv; injection hv with hv; subst hv; rfl
  intro s hs hd ho
  have h0 : s.t.get 0 = vn n := by subst hs; rfl
  have h1 : s.t.get 1 = vi 10 := by subst hs; rfl
  clear hs
  have q := P165 n hn
  have c1 : (0 : Int) ≤ (n : Int) := by omega
  have c2 : (n : Int) < 100 := by omega
  refine gP (aI @h0 <|@h1) ?_
  refine cnd (fun h => ?_) (fun h => ?_)
  · refine gP (aI @h0 <|aI @h1 <|aI @c1 <|@c2) ?_
    refine cnd (fun h => ?_) (fun h => ?_)
    · refine gP (aI @h0 <|aI @ho <|aI @co165 <|aI @sr165 <|@q.iffx) ?_
      refine rP hd @Tryd.results156 ?_
      try exact True.intro
    · simp at h
  · simp at h
theorem P146 (n : Nat) (hn : n < 100) : Ans X 146 [vn n] (.ret (.str (decB n))) := by
  refine call_of_X (fn := Tryd.f146) 1 Tryd.func146 rfl (by decide +kernel) rfl ?_ ?_ ?_ ?_
  · rfl
  · exact fun _ => rfl
  · intro v hv; injection hv with hv; subst hv; rfl
  intro s hs hd ho
  have h0 : s.t.get 0 = vn n := by subst hs; rfl
  clear hs
  have q := P156 n hn
  refine gP (aI @h0 <|aI @ho <|aI @co156 <|aI @sr156 <|@q.iffx) ?_
  refine rP hd @Tryd.results146 ?_
  try exact True.intro
theorem P129 (n : Nat) (hn : n < 100) : Ans X 129 [vn n] (.ret (.str (decB n))) := by
  refine call_of_X (fn := Tryd.f129) 1 Tryd.func129 rfl (by decide +kernel) rfl ?_ ?_ ?_ ?_
  · rfl
  · exact fun _ => rfl
  · intro v hv; injection hv with hv; subst hv; rfl
  intro s hs hd ho
  have h0 : s.t.get 0 = vn n := by subst hs; rfl
  clear hs
  have q := P146 n hn
  refine gP (aI @h0 <|aI @ho <|aI @co146 <|aI @sr146 <|@q.iffx) ?_
  refine rP hd @Tryd.results129 ?_
  try exact True.intro
end Go.Proofs.YtpocekfifokndaaDoor
namespace Go.Proofs.YtpocekfifokndaaDoor
open Go Go.Ev Go.Pl
set_option maxRecDepth 100000
set_option maxHeartbeats 4000000
def textB (a : List Nat) : List UInt8 := joinB [58] (a.map decB)
def strsV (l : List (List UInt8)) : List V := l.map V.str
theorem strsV_length (l : List (List UInt8)) : (strsV l).length = l.length := by simp [strsV]
theorem strsV_snoc (l : List (List UInt8)) (s : List UInt8) : strsV l ++ [.str s] = strsV (l ++ [s]) := by simp [strsV]
theorem cut_strs (l : List (List UInt8)) : cut (strsV l) 0 l.length = strsV l := by unfold cut; rw [List.drop_zero, List.take_of_length_le (by rw [strsV_length]; exact Nat.le_refl _)]
theorem strsOf_strsV : ∀ l : List (List UInt8), strsOf (strsV l) = some l
  | [] => rfl
  | s :: l => by
    show (strsOf (strsV l)).map (s :: ·) = _
    rw [strsOf_strsV l]; rfl
theorem decB_len (n : Nat) : (decB n).length ≤ 2 := by unfold decB; split <;> simp
theorem joinB_len : ∀ l : List Nat, (joinB [58] (l.map decB)).length ≤ 3 * l.length
  | [] => Nat.zero_le _
  | [x] => by
    have := decB_len x
    simp only [List.map_cons, List.map_nil, joinB, List.length_singleton]; omega
  | x :: y :: r => by
    have h := joinB_len (y :: r)
    have := decB_len x
    rw [List.map_cons, List.map_cons, joinB, ← List.map_cons, List.length_append, List.length_append, List.length_cons]
    · simp only [List.length_cons, List.length_nil] at h ⊢
      omega
    · intro e; cases e
theorem ext130 {l : List Nat} (hl : l.length ≤ 1000) {m : Mem} {dst : Nat} {K KP : V → Mem → Prop} : CallQ X 130 [.sl (strsV (l.map decB)), .str [58]] m dst K KP ↔ K (.str (textB l)) m :=
  ext_iff (by
    have h1 := joinB_len l
    show extF 130 [.sl (strsV (l.map decB)), .str [58]] = some (.str (textB l))
    unfold extF
    rw [if_neg (by decide), if_pos rfl]
    simp only [strsOf_strsV]
    rw [if_pos ⟨by rw [List.length_map]; omega, by omega⟩]
    rfl) rfl (fun _ => rfl) rfl
def textS (a : List Int) : List UInt8 × Int := if chk a ≠ 0 then ([], chk a) else if a.length = 0 then ([48], 0) else (textB (natsOf a), 0)
theorem P70 (a : List Int) : Ans X 70 [.sl (ints a)] (.ret (.tup [.str (textS a).1, vi (textS a).2])) := by
  refine call_of_X (fn := Tryd.f70) 1 Tryd.func70 rfl (by decide +kernel) rfl ?_ ?_ ?_ ?_
  · rfl
  · exact fun _ => rfl
  · intro v hv; injection hv with hv; subst hv; rfl
  intro s hs hd ho
  have hm : s.m = ⟨.nil, []⟩ := by subst hs; rfl
  have h0 : s.t.get 0 = .sl (ints a) := by subst hs; rfl
  clear hs
  refine gP (aI @h0 <|aI @hm <|aI @co28 <|aI @sr28 <|((P28 a).iffx)) ?_
  refine cnd (fun h => ?_) (fun h => ?_)
  · have h : chk a ≠ 0 := by simpa using h
    refine gP @Nat.zero_add ?_
    refine rP hd @Tryd.results70 ?_
    try exact True.intro
    rw [textS, if_pos h]
  have hc : chk a = 0 := by simpa using h
  rw [textS, if_neg (fun e => e hc)]
  clear h
  by_cases hl : a.length = 0
  · have e1 : (((a.length : Nat) : Int) == 0) = true := by rw [hl]; rfl
    rw [if_pos hl]
    refine gP (aI @h0 <|aI @ints_length <|@e1) ?_
    refine cnd (fun h => ?_) (fun h => ?_)
    · refine gP @Nat.zero_add ?_
      refine rP hd @Tryd.results70 ?_
      try exact True.intro
    · simp at h
  have e1 : (((a.length : Nat) : Int) == 0) = false := by rw [beq_eq_false_iff_ne]; omega
  rw [if_neg hl]
  refine gP (aI @h0 <|aI @ints_length <|@e1) ?_
  refine cnd (fun h => ?_) (fun h => ?_)
  · simp at h
  clear h
  obtain ⟨b1, b2, b3, b4, _⟩ := chk_ok hc
  rw [b1] at h0
  generalize natsOf a = l at *
  rw [← b4] at b3
  clear b1 hc hl e1 b4
  refine gPS (aI @h0 <|aI @hm <|@nats_length) ?_
  refine W_loopg (fun (k : Nat) s => s.dfs = [] ∧ s.m.out.length = 0 ∧ s.t.get 16 = .sl (nats l) ∧ s.t.get 17 = vn l.length ∧ s.t.get 18 = vn k ∧ HeldD s.m 0 5 1 9 (s.t.get 5) (strsV ((l.take k).map decB)) ∧ k ≤ l.length) (fun k => l.length - k) 0 ?_ ?_
  · refine ⟨hd, ?_, ?_, ?_, ?_, ⟨1, 0, ?_, ?_, .inr ⟨rfl, rfl⟩⟩, Nat.zero_le _⟩
    all_goals (try refine fS (aI @h0 <|@hm) ?_);all_goals try exact True.intro
    all_goals rfl
  clear hd h0 hm ho
  rintro k s ⟨hd, ho, h16, h17, h18, ⟨g, ty, h5, r5, hty⟩, hk⟩
  rw [strsV_length, List.length_map, List.length_take, Nat.min_eq_left hk] at h5 hty
  refine gP (aI @h17 <|@h18) ?_
  refine cnd (fun h => ?_) (fun h => ?_)
  · have hk' : k < l.length := by have := of_decide_eq_true h; omega
    clear h
    obtain ⟨x, hx⟩ : ∃ x, l[k]? = some x := ⟨l[k], by simp⟩
    have hx60 := b2 x (List.mem_of_getElem? hx)
    have gx : (nats l)[k]? = some (vn x) := by rw [nats_get?, hx]; rfl
    have ht : (l.take (k + 1)).map decB = (l.take k).map decB ++ [decB x] := by rw [List.take_add_one, hx]; simp
    have q := P129 x (by omega)
    have i1 : (k : Int) < (l.length : Int) := by omega
    have i2 : (0 : Int) ≤ (k : Int) := by omega
    have e1 : V.int .i64 (wr .i64 ((k : Int) + 1)) = vn (k + 1) := by rw [wr_i64 (by omega) (by omega)]; rfl
    have hcut : cut (strsV ((l.take k).map decB)) 0 k = strsV ((l.take k).map decB) := by
      have := cut_strs ((l.take k).map decB)
      rwa [List.length_map, List.length_take, Nat.min_eq_left hk] at this
    have hlen : (strsV ((l.take k).map decB)).length = k := by rw [strsV_length, List.length_map, List.length_take, Nat.min_eq_left hk]
    have hlen1 : (strsV ((l.take k).map decB ++ [decB x])).length = k + 1 := by rw [strsV_length, List.length_append, List.length_map, List.length_take, Nat.min_eq_left hk]; rfl
    generalize (l.take k).map decB = T at *
    have hk16 : (k + 1) * 18 ≤ 1099511627776 := by omega
    clear hx
    refine gPAS (aI @h5 <|aI @h16 <|aI @h18 <|aI @r5 <|aI @ho <|aI @hty <|aI @gx <|aI @i1 <|aI @i2 <|aI @hk' <|aI @nats_length <|aI @co129 <|aI @sr129 <|aI @q.iffx <|aI @hlen <|aI @hcut <|aI @strsV_snoc <|aI @hk16 <|@e1) ?_
    refine ⟨k + 1, ⟨hd, ?_, ?_, ?_, ?_, ⟨g + 1, 9, ?_, ?_, .inl rfl⟩, hk'⟩, by omega⟩
    all_goals (try refine fS (aI @h5 <|aI @h16 <|aI @h17 <|aI @h18 <|aI @r5 <|aI @ho <|aI @ht <|aI @hlen <|@hlen1) ?_);all_goals try exact True.intro
  · have hk' : k = l.length := by have := of_decide_eq_false h; omega
    subst hk'
    clear h
    rw [List.take_length] at r5
    have hx : ∀ (m : Mem) (dst : Nat) (K KP : V → Mem → Prop), CallQ X 130 [.sl (strsV (l.map decB)), .str [58]] m dst K KP ↔ K (.str (textB l)) m := fun _ _ _ _ => ext130 (by omega)
    have hlen : (strsV (l.map decB)).length = l.length := by rw [strsV_length, List.length_map]
    have hcut : cut (strsV (l.map decB)) 0 l.length = strsV (l.map decB) := by
      have := cut_strs (l.map decB)
      rwa [List.length_map] at this
    refine gPAS (aI @h5 <|aI @r5 <|aI @ho <|aI @hlen <|aI @hcut <|aI @co130 <|aI @sr130 <|@hx) ?_
    refine rP hd @Tryd.results70 ?_
    try exact True.intro
end Go.Proofs.YtpocekfifokndaaDoor
namespace Go.Proofs.YtpocekfifokndaaDoor
open Go Go.Ev Go.Pl
set_option maxRecDepth 100000
set_option maxHeartbeats 4000000
def multK (p : Nat) : Nat → Nat → Nat
  | 0, _ => 0
  | f + 1, N => if 1 < p ∧ 0 < N ∧ N % p = 0 then multK p f (N / p) + 1 else 0
theorem mult_eq {p : Nat} : ∀ (f N : Nat), N < 2 ^ f → mult p N = multK p f N
  | 0, N, h => by
    have : N = 0 := by simpa using h
    subst this
    rw [mult, dif_neg (by omega), multK]
  | f + 1, N, h => by
    rw [mult, multK]
    split
    · rename_i hc
      have hp : 2 ≤ p := hc.1
      rw [mult_eq f (N / p) (by
        have h1 : N / p ≤ N / 2 := Nat.div_le_div_left hp (by decide)
        rw [Nat.pow_succ] at h
        omega)]
    · rfl
def vzK : Nat → Nat → Nat
  | 0, _ => 0
  | f + 1, N => if N % 60 = 0 ∧ 0 < N then vzK f (N / 60) + 1 else 0
theorem vz_eq : ∀ (f N : Nat), N < 2 ^ f → vz N = vzK f N
  | 0, N, h => by
    have : N = 0 := by simpa using h
    subst this
    rw [vz, dif_neg (by omega), vzK]
  | f + 1, N, h => by
    rw [vz, vzK]
    split
    · rename_i hc
      rw [vz_eq f (N / 60) (by rw [Nat.pow_succ] at h; omega)]
    · rfl
def canK : Nat → Nat → List Nat
  | 0, _ => []
  | f + 1, N => if N = 0 then [] else N % 60 :: canK f (N / 60)
theorem can_eq : ∀ (f N : Nat), N < 2 ^ f → canL N = canK f N
  | 0, N, h => by
    have : N = 0 := by simpa using h
    subst this
    rw [canL, dif_pos rfl, canK]
  | f + 1, N, h => by
    rw [canL, canK]
    split
    · rfl
    · rename_i hc
      rw [can_eq f (N / 60) (by rw [Nat.pow_succ] at h; omega)]
theorem lt2 (N : Nat) : N < 2 ^ N := Nat.lt_two_pow_self
theorem mult_N (p N : Nat) : mult p N = multK p N N := mult_eq N N (lt2 N)
theorem vz_N (N : Nat) : vz N = vzK N N := vz_eq N N (lt2 N)
def remK (p N : Nat) : Nat := N / p ^ multK p N N
theorem rem_N (p N : Nat) : rem p N = remK p N := by rw [rem, mult_N]; rfl
def digK (N : Nat) : List Nat := (canK (N / 60 ^ vzK N N) (N / 60 ^ vzK N N)).reverse
theorem dig_N (N : Nat) : digB N = digK N := by rw [digB, core, vz_N, can_eq _ _ (lt2 _)]; rfl
def splitK : List Nat → Nat → List Nat × Nat
  | [], N => ([], N)
  | p :: ps, N => (multK p N N :: (splitK ps (remK p N)).1, (splitK ps (remK p N)).2)
theorem split_N : ∀ (ps : List Nat) (N : Nat), splitF ps N = splitK ps N
  | [], _ => rfl
  | p :: ps, N => by rw [splitF, splitK, mult_N, rem_N, split_N ps]
def regK (a : List Int) : Nat × Nat × Nat × Int :=
  if chk a ≠ 0 then (0, 0, 0, chk a) else if a.length = 0 then (0, 0, 0, 9) else
  if (splitK [2, 3, 5] (numI a)).2 ≠ 1 then (0, 0, 0, 31) else (multK 2 (numI a) (numI a), multK 3 (remK 2 (numI a)) (remK 2 (numI a)), multK 5 (remK 3 (remK 2 (numI a))) (remK 3 (remK 2 (numI a))), 0)
theorem reg_N (a : List Int) : regS a = regK a := by rw [regS, regK, split_N, rem_N, rem_N, mult_N, mult_N, mult_N]
def recK (a : List Int) : List Nat × Int :=
  if (regK a).2.2.2 ≠ 0 then ([], (regK a).2.2.2) else
  if 16 < (digK (invW (regK a).1 (regK a).2.1 (regK a).2.2.1)).length then ([], 3) else (digK (invW (regK a).1 (regK a).2.1 (regK a).2.2.1), 0)
theorem rec_N (a : List Int) : recS a = recK a := by rw [recS, recK, reg_N, dig_N]
def mulK (a b : List Int) : List Nat × Int := if chk2 a b ≠ 0 then ([], chk2 a b) else if 16 < (digK (numI a * numI b)).length then ([], 3) else (digK (numI a * numI b), 0)
theorem mul_N (a b : List Int) : mulS a b = mulK a b := by rw [mulS, mulK, dig_N]
theorem step_skip {w : Nat} (hw : 0 < w) : ∀ (k f : Nat), k < f → (∀ g, f - k < g → g ≤ f → w % g ≠ 0) → stepL w f = stepL w (f - k)
  | 0, f, _, _ => rfl
  | k + 1, f, hk, h => by
    rw [stepL_no (by omega) hw (fun e => h f (by omega) (Nat.le_refl _) e.2), step_skip hw k (f - 1) (by omega) (fun g h1 h2 => h g (by omega) (by omega))]
    congr 1; omega
theorem step_all {w f k : Nat} (h : ((List.range (k + 1)).all fun i => decide (i = k) || decide (w % (f - i) ≠ 0)) = true) : ∀ g, f - k < g → g ≤ f → w % g ≠ 0 := by
  intro g h1 h2
  have := List.all_eq_true.1 h (f - g) (List.mem_range.2 (by omega))
  rw [show f - (f - g) = g by omega] at this
  simp only [Bool.or_eq_true, decide_eq_true_eq] at this
  rcases this with e | e
  · omega
  · exact e
theorem wk31 : Ans X 31 [.sl [vi 44, vi 26, vi 40]] (.ret (.tup [vi 8, vi 0, vi 4, vi 0])) := by
  have h := P31 [44, 26, 40]
  rw [show regS [44, 26, 40] = (8, 0, 4, 0) by rw [reg_N]; decide +kernel] at h
  exact h
def ofK (n : Int) : List Nat × Int := if n < 0 ∨ 1099511627776 < n then ([], 8) else (digK n.toNat, 0)
theorem of_N (n : Int) : ofS n = ofK n := by rw [ofS, ofK, dig_N]
theorem wk36a : Ans X 36 [vi 7200] (.ret (.tup [.sl [vi 2], vi 0])) := by
  have h := P36 7200
  rw [show ofS 7200 = ([2], 0) by rw [of_N]; decide +kernel] at h
  exact h
theorem wk36b : Ans X 36 [vi 4000] (.ret (.tup [.sl [vi 1, vi 6, vi 40], vi 0])) := by
  have h := P36 4000
  rw [show ofS 4000 = ([1, 6, 40], 0) by rw [of_N]; decide +kernel] at h
  exact h
theorem wk70 : Ans X 70 [.sl [vi 1, vi 0, vi 30]] (.ret (.tup [.str [49, 58, 48, 58, 51, 48], vi 0])) := by
  have h := P70 [1, 0, 30]
  rw [show textS [1, 0, 30] = ([49, 58, 48, 58, 51, 48], 0) by decide +kernel] at h
  exact h
theorem wk34 : Ans X 34 [.str [48]] (.ret (.tup [.sl [], vi 0, vi 0])) := by
  have h := P34 [48] (by decide)
  rw [show parseS [48] = ([], 0, 0) by decide +kernel] at h
  exact h
theorem st125 : stepL 125 81 = [25, 5] := by
  rw [step_skip (w := 125) (by decide) 56 81 (by decide) (step_all (by decide)), stepL_yes (w := 125) (f := 81 - 56) (by decide) (by decide) ⟨by rw [dig_N, reg_N]; decide +kernel, by decide⟩,
    show 125 / (81 - 56) = 5 from rfl, show 81 - 56 = 25 from rfl, step_skip (w := 5) (by decide) 20 25 (by decide) (step_all (by decide)), stepL_yes (w := 5) (f := 25 - 20) (by decide) (by decide) ⟨by rw [dig_N, reg_N]; decide +kernel, by decide⟩,
    show 5 / (25 - 20) = 1 from rfl, show 25 - 20 = 5 from rfl, step_skip (w := 1) (by decide) 4 5 (by decide) (step_all (by decide)), stepL_end (by decide)]
theorem wk40 : Ans X 40 [.sl [vi 2, vi 5]] (.ret (.tup [.sl [.agg [.sl [vi 25], .sl [vi 2, vi 24]], .agg [.sl [vi 5], .sl [vi 12]]], vi 0])) := by
  have h := P40 [2, 5]
  have e1 : (regS [2, 5]).2.2.2 = 0 := by rw [reg_N]; decide +kernel
  have e2 : digB 25 = [25] := by rw [dig_N]; decide +kernel
  have e3 : digB 5 = [5] := by rw [dig_N]; decide +kernel
  have e4 : recS (zi [25]) = ([2, 24], 0) := by rw [rec_N]; decide +kernel
  have e5 : recS (zi [5]) = ([12], 0) := by rw [rec_N]; decide +kernel
  rw [show stepsS [2, 5] = ([25, 5], 0) by rw [stepsS, if_neg (by rw [e1]; decide), show numI [2, 5] = 125 from rfl, st125]] at h
  simp only [pairsV, List.map_cons, List.map_nil, pairV, e2, e3, e4, e5] at h
  exact h
theorem wk51 : Ans X 51 [.sl [vi 7], .sl [vi 1, vi 25]] (.ret (.tup [.sl [.agg [.sl [vi 7], vi 1], .agg [.sl [vi 2, vi 20], vi 0], .agg [.sl [vi 35], vi 0]], vi 0])) := by
  have h := P51 [7] [1, 25]
  have hv : ∀ N, vz N = vzK N N := vz_N
  have e1 : byE 1 (natsOf [1, 25]) = [(1, 1), (20, 0), (5, 0)] := by decide +kernel
  have e2 : ([(1, 1), (20, 0), (5, 0)] : List (Nat × Nat)).all (okP (numI [7])) = true := by
    have : ∀ p : Nat × Nat, okP 7 p = decide (7 * p.1 = 0 ∨ ((digK (7 * p.1)).length ≤ 16 ∧ -64 ≤ (p.2 : Int) + vzK (7 * p.1) (7 * p.1) ∧ (p.2 : Int) + vzK (7 * p.1) (7 * p.1) ≤ 64)) := by
      intro p
      unfold okP goodP
      simp only [dig_N, vz_N]
    rw [show numI [7] = 7 from rfl, show okP 7 = _ from funext this]
    decide +kernel
  rw [show bytS [7] [1, 25] = ([(1, 1), (20, 0), (5, 0)], 0) by
    rw [bytS, if_neg (by decide +kernel)]
    rw [show ([7] : List Int).length = 1 from rfl, e1, if_pos e2]] at h
  have f1 : digB 7 = [7] := by rw [dig_N]; decide +kernel
  have f2 : digB 140 = [2, 20] := by rw [dig_N]; decide +kernel
  have f3 : digB 35 = [35] := by rw [dig_N]; decide +kernel
  have z1 : vz 7 = 0 := by rw [vz_N]; decide +kernel
  have z2 : vz 140 = 0 := by rw [vz_N]; decide +kernel
  have z3 : vz 35 = 0 := by rw [vz_N]; decide +kernel
  have e3 : plV (numI [7]) [(1, 1), (20, 0), (5, 0)] = [.agg [.sl [vi 7], vi 1], .agg [.sl [vi 2, vi 20], vi 0], .agg [.sl [vi 35], vi 0]] := by
    show [placeV 7 1, placeV 140 0, placeV 35 0] = _
    unfold placeV
    rw [f1, f2, f3, z1, z2, z3]
    rfl
  dsimp only at h
  rw [e3] at h
  exact h
theorem wk61 : Ans X 61 [.agg [.sl [vi 37, vi 30], vi (-2)]] (.ret (.tup [.agg [vi 5, vi 8], vi 0])) := by
  have h := P61 ([37, 30], -2)
  rw [show ratS ([37, 30], -2) = (5, 8, 0) by decide +kernel] at h
  exact h
theorem rt_eq {n r : Nat} (h1 : r * r ≤ n) (h2 : n < (r + 1) * (r + 1)) : rt n = r := by
  obtain ⟨a, b⟩ := rt_spec n
  rcases Nat.lt_trichotomy (rt n) r with h | h | h
  · have : (rt n + 1) * (rt n + 1) ≤ r * r := Nat.mul_le_mul h h
    omega
  · exact h
  · have : (r + 1) * (r + 1) ≤ rt n * rt n := Nat.mul_le_mul h h
    omega
theorem wk46 : Ans X 46 [vi 2, vi 4] (.ret (.tup [.agg [.sl [vi 1, vi 24, vi 51, vi 10], vi (-3)], vi 0])) := by
  have h := P46 2 4 (by decide) (by decide) (by decide) (by decide)
  have r1 : rt 2 = 1 := rt_eq (by decide) (by decide)
  have r2 : rt (2 * 3600) = 84 := rt_eq (by decide) (by decide)
  have r3 : rt (2 * 3600 * 3600) = 5091 := rt_eq (by decide) (by decide)
  have r4 : rt (2 * 3600 * 3600 * 3600) = 305470 := rt_eq (by decide) (by decide)
  have hx : rootX 2 4 = (2 * 3600 * 3600 * 3600, -3) := by
    rw [rootX, rdn, if_neg (by rw [r1]; decide)]
    rw [rup, r1, if_pos (by decide), rup, r2, if_pos (by decide), rup, r3, if_pos (by decide), rup, r4, if_neg (by decide)]
    rfl
  rw [hx, r4, shV, show digB 305470 = [1, 24, 51, 10] by rw [dig_N]; decide +kernel, show vz 305470 = 0 by rw [vz_N]; decide +kernel] at h
  exact h
def wantL : List Nat := [1, 2, 3, 4, 5, 6, 8, 9, 10, 12, 15, 16, 18, 20, 24, 25, 27, 30, 32, 36, 40, 45, 48, 50, 54]
def pairK : Nat → List Nat
  | 0 => []
  | k + 1 => if (splitK [2, 3, 5] (k + 1)).2 = 1 ∧ (k + 1) % 60 ≠ 0 then pairK k ++ [k + 1] else pairK k
theorem pair_N : ∀ k, pairL k = pairK k
  | 0 => rfl
  | k + 1 => by rw [pairL, pairK, pair_N k]; simp only [pOk, split_N]
theorem wk53 : Ans X 53 [vi 1] (.ret (.tup [.sl (pairsV wantL), vi 0])) := by
  have h := P53 1 (by decide) (by decide)
  rw [show pairL (60 ^ 1 - 1) = wantL by rw [pair_N]; decide +kernel] at h
  exact h
theorem wantOk : wantL.all (fun f => decide (digK f = [f]) && decide (mulK (zi [f]) (zi (recK (zi [f])).1) = ([1], 0)) && decide (f < 60)) = true := by decide +kernel
theorem want_at {k f : Nat} (h : wantL[k]? = some f) : digB f = [f] ∧ mulS (zi [f]) (zi (recS (zi [f])).1) = ([1], 0) := by
  have := List.all_eq_true.1 wantOk f (List.mem_of_getElem? h)
  simp only [Bool.and_eq_true, decide_eq_true_eq] at this
  exact ⟨by rw [dig_N]; exact this.1.1, by rw [rec_N, mul_N]; exact this.1.2⟩
end Go.Proofs.YtpocekfifokndaaDoor
namespace Go.Ev
abbrev withExt (X : Env) (e : FuncId → List V → Option V) : Env := { X with ext := e }
def ExtSim (X : Env) (e : FuncId → List V → Option V) : Prop :=
  (∀ f args v, X.ext f args = some v → e f args = some v) ∧
  ∀ f args v, e f args = some v → X.ext f args = some v ∨ (X.ext f args = none ∧ ∃ k out, evFn X k f args [] = some (.ret v, out))
section
variable {X : Env} {e : FuncId → List V → Option V}
theorem evOp_ext (m : Mem) (t : Tm) (o : Oper) : evOp (withExt X e) m t o = evOp X m t o := rfl
theorem footD_ext (ops : Array Oper) (o : Oper) (st : St) : footD (withExt X e) ops o st = footD X ops o st := rfl
theorem doCall_ext (hs : ExtSim X e) {call' : CallF} (hc : ∀ f args out r, call' f args out = some r → ∃ k, evFn X k f args out = some r) {f : FuncId} {args : List V} {m : Mem} {dst : Nat} {r : Res × Mem}
    (h : doCall (withExt X e) call' f args m dst = some r) : ∃ k, doCall X (evFn X k) f args m dst = some r := by
  unfold doCall at h
  cases he : e f args with
  | some v =>
    simp only [he] at h
    split at h
    · rename_i hc'
      rcases hs.2 f args v he with hx | ⟨hx, k, out, hk⟩
      · refine ⟨0, ?_⟩
        unfold doCall
        simp only [hx]
        rw [if_pos hc']; exact h
      · refine ⟨k, ?_⟩
        unfold doCall
        simp only [hx, hc'.1, Bool.false_eq_true, if_false, hk]
        rw [if_pos hc'.2]; exact h
    · simp at h
  | none =>
    have hx : X.ext f args = none := by
      cases hx : X.ext f args with
      | none => rfl
      | some v => have := hs.1 f args v hx; rw [he] at this; simp at this
    simp only [he] at h
    by_cases hr : args.any V.refs = true
    · simp only [hr, if_true] at h
      cases hcl : call' f args (m.own :: m.out) with
      | none => simp [hcl] at h
      | some q =>
        obtain ⟨k, hk⟩ := hc _ _ _ _ hcl
        refine ⟨k, ?_⟩
        unfold doCall
        simp only [hx, hr, if_true, hk]
        rw [hcl] at h; exact h
    · simp only [hr, if_false, Bool.false_eq_true] at h
      cases hcl : call' f args [] with
      | none => simp [hcl] at h
      | some q =>
        obtain ⟨k, hk⟩ := hc _ _ _ _ hcl
        refine ⟨k, ?_⟩
        unfold doCall
        simp only [hx, hr, if_false, Bool.false_eq_true, hk]
        rw [hcl] at h; exact h
theorem evOps_ext (hs : ExtSim X e) {call' : CallF} (hc : ∀ f args out r, call' f args out = some r → ∃ k, evFn X k f args out = some r) {ops : Array Oper} : ∀ (l : List Oper) (st : St) (r : Out × St),
    evOps (withExt X e) call' ops l st = some r → ∃ k, evOps X (evFn X k) ops l st = some r
  | [], st, r, h => ⟨0, by simpa [evOps] using h⟩
  | o :: l, st, r, h => by
    rw [evOps] at h
    split at h
    · rename_i hw
      rw [evOp_ext] at h
      cases ho : evOp X st.m st.t o with
      | none => simp [ho] at h
      | some q =>
        simp only [ho] at h
        cases q with
        | val v m => obtain ⟨k, hk⟩ := evOps_ext hs hc l _ r h; exact ⟨k, by rw [evOps, if_pos hw, ho]; exact hk⟩
        | skip m => obtain ⟨k, hk⟩ := evOps_ext hs hc l _ r h; exact ⟨k, by rw [evOps, if_pos hw, ho]; exact hk⟩
        | defer f cap => obtain ⟨k, hk⟩ := evOps_ext hs hc l _ r h; exact ⟨k, by rw [evOps, if_pos hw, ho]; exact hk⟩
        | panic v => exact ⟨0, by rw [evOps, if_pos hw, ho]; exact h⟩
        | call f args m =>
          simp only at h
          cases hd : doCall (withExt X e) call' f args m (o.dst.getD 0) with
          | none => simp [hd] at h
          | some q =>
            obtain ⟨k1, hk1⟩ := doCall_ext hs hc hd
            obtain ⟨res, m'⟩ := q
            cases res with
            | ret v =>
              simp only [hd] at h
              obtain ⟨k2, hk2⟩ := evOps_ext hs hc l _ r h
              refine ⟨max k1 k2, ?_⟩
              rw [evOps, if_pos hw, ho]
              simp only [doCall_mono (evFn_le (Nat.le_max_left k1 k2)) hk1]
              exact evOps_mono (evFn_le (Nat.le_max_right k1 k2)) _ _ _ hk2
            | panic v =>
              simp only [hd] at h
              exact ⟨k1, by rw [evOps, if_pos hw, ho]; simp only [hk1]; exact h⟩
    · rename_i hw
      obtain ⟨k, hk⟩ := evOps_ext hs hc l _ r h
      exact ⟨k, by rw [evOps, if_neg hw]; exact hk⟩
theorem stepD_ext (hs : ExtSim X e) {call' : CallF} (hc : ∀ f args out r, call' f args out = some r → ∃ k, evFn X k f args out = some r) {ops : Array Oper} {o : Oper} {st st' : St}
    (h : stepD (withExt X e) call' ops o st = some st') : ∃ k, stepD X (evFn X k) ops o st = some st' := by
  unfold stepD at h
  split at h
  · rename_i hw
    cases hm : memStep (withExt X e) call' o st.t st.m with
    | none => simp [hm] at h
    | some q =>
      have key : ∃ k, memStep X (evFn X k) o st.t st.m = some q := by
        unfold memStep at hm
        rw [evOp_ext] at hm
        cases ho : evOp X st.m st.t o with
        | none => simp [ho] at hm
        | some x =>
          simp only [ho] at hm
          cases x with
          | val v m => exact ⟨0, by unfold memStep; rw [ho]; exact hm⟩
          | skip m => exact ⟨0, by unfold memStep; rw [ho]; exact hm⟩
          | call f args m =>
            simp only at hm
            cases hd : doCall (withExt X e) call' f args m (o.dst.getD 0) with
            | none => simp [hd] at hm
            | some y =>
              obtain ⟨k, hk⟩ := doCall_ext hs hc hd
              exact ⟨k, by unfold memStep; rw [ho]; simp only [hk]; rw [hd] at hm; exact hm⟩
          | defer f cap => simp at hm
          | panic v => simp at hm
      obtain ⟨k, hk⟩ := key
      refine ⟨k, ?_⟩
      unfold stepD
      rw [if_pos hw, hk]
      rw [hm] at h; exact h
  · rename_i hw
    exact ⟨0, by unfold stepD; rw [if_neg hw]; exact h⟩
theorem evOpsD_ext (hs : ExtSim X e) {call' : CallF} (hc : ∀ f args out r, call' f args out = some r → ∃ k, evFn X k f args out = some r) {ops : Array Oper} {ds : List (List Nat)} : ∀ (l : List Oper) (i : Nat) (fs : List Foot) (st r : St),
    evOpsD (withExt X e) call' ops ds i fs l st = some r → ∃ k, evOpsD X (evFn X k) ops ds i fs l st = some r
  | [], i, fs, st, r, h => ⟨0, by simpa [evOpsD] using h⟩
  | o :: l, i, fs, st, r, h => by
    rw [evOpsD] at h
    split at h
    · rename_i hw
      cases hd : stepD (withExt X e) call' ops o st with
      | none => simp [hd] at h
      | some st' =>
        simp only [hd] at h
        obtain ⟨k1, hk1⟩ := stepD_ext hs hc hd
        obtain ⟨k2, hk2⟩ := evOpsD_ext hs hc l _ _ _ r h
        refine ⟨max k1 k2, ?_⟩
        rw [evOpsD, if_pos (show ((footD X ops o st).idle || (fs.zipIdx.all fun p => comparable ds p.2 i || p.1.ok (footD X ops o st))) = true from hw), stepD_mono (evFn_le (Nat.le_max_left k1 k2)) hk1]
        exact evOpsD_mono (evFn_le (Nat.le_max_right k1 k2)) _ _ _ _ _ hk2
    · simp at h
theorem runDefers_ext {call' : CallD} (hc : ∀ f args out p r, call' f args out p = some r → ∃ k, evD X k f args out p = some r) : ∀ (l : List (FuncId × List V)) (m : Mem) (p : Option V) (r : Option V × Mem),
    runDefers call' l m p = some r → ∃ k, runDefers (evD X k) l m p = some r
  | [], m, p, r, h => ⟨0, by simpa [runDefers] using h⟩
  | (f, cap) :: l, m, p, r, h => by
    rw [runDefers] at h
    cases hd : call' f cap (m.own :: m.out) p with
    | none => simp [hd] at h
    | some q =>
      obtain ⟨k1, hk1⟩ := hc _ _ _ _ _ hd
      cases q with
      | nil => simp [hd] at h
      | cons own out =>
        simp only [hd] at h
        obtain ⟨k2, hk2⟩ := runDefers_ext hc l _ _ r h
        refine ⟨max k1 k2, ?_⟩
        rw [runDefers, evD_le (Nat.le_max_left k1 k2) _ _ _ _ _ hk1]
        exact runDefers_mono (evD_le (Nat.le_max_right k1 k2)) _ _ _ _ hk2
theorem resVar_ext (m : Mem) (t : Tm) (r : ResultVar) : resVar (withExt X e) m t r = resVar X m t r := rfl
theorem resVars_ext (m : Mem) (t : Tm) : ∀ l : List ResultVar, resVars (withExt X e) m t l = resVars X m t l
  | [] => rfl
  | r :: l => by rw [resVars, resVars, resVars_ext m t l, resVar_ext]
theorem finish_ext {call' : CallD} (hc : ∀ f args out p r, call' f args out p = some r → ∃ k, evD X k f args out p = some r) {fn : Func} {st : St} {p : Option V} {r : Res × List Rows}
    (h : finish (withExt X e) call' fn st p = some r) : ∃ k, finish X (evD X k) fn st p = some r := by
  unfold finish at h
  cases hd : runDefers call' st.dfs st.m p with
  | none => simp [hd] at h
  | some q =>
    obtain ⟨k, hk⟩ := runDefers_ext hc _ _ _ _ hd
    refine ⟨k, ?_⟩
    unfold finish
    rw [hk]
    rw [hd] at h
    simp only [resVars_ext] at h
    exact h
theorem ev_ext (hs : ExtSim X e) : ∀ n, (∀ c st r, evC (withExt X e) n c st = some r → ∃ k, evC X k c st = some r) ∧ (∀ f args out r, evFn (withExt X e) n f args out = some r → ∃ k, evFn X k f args out = some r) ∧
    (∀ f args out p r, evD (withExt X e) n f args out p = some r → ∃ k, evD X k f args out p = some r) := by
  intro n
  induction n with
  | zero => exact ⟨fun c st r h => by simp [evC] at h, fun f args out r h => by simp [evFn] at h, fun f args out p r h => by simp [evD] at h⟩
  | succ n ih =>
    obtain ⟨ihC, ihF, ihD⟩ := ih
    refine ⟨?_, ?_, ?_⟩
    · intro c st r h
      cases c with
      | skip => exact ⟨1, by simpa [evC] using h⟩
      | label l => exact ⟨1, by simpa [evC] using h⟩
      | seq a b =>
        rw [evC] at h
        cases ha : evC (withExt X e) n a st with
        | none => simp [ha] at h
        | some q =>
          obtain ⟨k1, hk1⟩ := ihC _ _ _ ha
          obtain ⟨o, s⟩ := q
          cases o with
          | normal =>
            simp only [ha] at h
            obtain ⟨k2, hk2⟩ := ihC _ _ _ h
            refine ⟨max k1 k2 + 1, ?_⟩
            rw [evC, evC_le (Nat.le_max_left k1 k2) hk1]
            exact evC_le (Nat.le_max_right k1 k2) hk2
          | _ => exact ⟨k1 + 1, by rw [evC, hk1]; simpa [ha] using h⟩
      | cond x a b =>
        rw [evC] at h
        have ho : opd (withExt X e) st.t x = opd X st.t x := rfl
        rw [ho] at h
        split at h
        · rename_i hx; obtain ⟨k, hk⟩ := ihC _ _ _ h; exact ⟨k + 1, by rw [evC, hx]; exact hk⟩
        · rename_i hx; obtain ⟨k, hk⟩ := ihC _ _ _ h; exact ⟨k + 1, by rw [evC, hx]; exact hk⟩
        · simp at h
      | block id a =>
        rw [evC] at h
        cases ha : evC (withExt X e) n a st with
        | none => simp [ha] at h
        | some q =>
          obtain ⟨k1, hk1⟩ := ihC _ _ _ ha
          refine ⟨k1 + 1, ?_⟩
          rw [evC, hk1]
          rw [ha] at h; exact h
      | loop a =>
        rw [evC] at h
        cases ha : evC (withExt X e) n a st with
        | none => simp [ha] at h
        | some q =>
          obtain ⟨k1, hk1⟩ := ihC _ _ _ ha
          obtain ⟨o, s⟩ := q
          cases o with
          | normal =>
            simp only [ha] at h
            obtain ⟨k2, hk2⟩ := ihC _ _ _ h
            refine ⟨max k1 k2 + 1, ?_⟩
            rw [evC, evC_le (Nat.le_max_left k1 k2) hk1]
            exact evC_le (Nat.le_max_right k1 k2) hk2
          | _ => exact ⟨k1 + 1, by rw [evC, hk1]; simpa [ha] using h⟩
      | exit id => exact ⟨1, by simpa [evC] using h⟩
      | ret => exact ⟨1, by simpa [evC] using h⟩
      | region id ops dr =>
        cases dr with
        | false =>
          simp only [evC] at h
          obtain ⟨k, hk⟩ := evOps_ext hs ihF _ _ _ h
          exact ⟨k + 1, by simp only [evC]; exact hk⟩
        | true =>
          simp only [evC] at h
          split at h
          · rename_i hdo
            cases hx : evOpsD (withExt X e) (evFn (withExt X e) n) ops (deps ops.toList) 0 [] ops.toList st with
            | none => simp [hx] at h
            | some s =>
              obtain ⟨k, hk⟩ := evOpsD_ext hs ihF _ _ _ _ _ hx
              refine ⟨k + 1, ?_⟩
              simp only [evC]
              rw [if_pos hdo, hk]
              rw [hx] at h; exact h
          · simp at h
      | rangeFunc f p a b => simp [evC] at h
      | scope b => simp [evC] at h
      | goto l => simp [evC] at h
      | refuse w => simp [evC] at h
    · intro f args out r h
      rw [evFn] at h
      have hP : (withExt X e).P = X.P := rfl
      rw [hP] at h
      cases hf : X.P.funcs[f]? with
      | none => simp [hf] at h
      | some fn =>
        simp only [hf] at h
        cases hb : fn.body with
        | none => simp [hb] at h
        | some c =>
          simp only [hb] at h
          split at h
          · rename_i hok
            cases hc : evC (withExt X e) n c (enter args out) with
            | none => simp [hc] at h
            | some q =>
              obtain ⟨k1, hk1⟩ := ihC _ _ _ hc
              obtain ⟨o, s⟩ := q
              cases o with
              | normal =>
                simp only [hc] at h
                obtain ⟨k2, hk2⟩ := finish_ext ihD h
                refine ⟨max k1 k2 + 1, ?_⟩
                rw [evFn]; simp only [hf, hb, if_pos hok, evC_le (Nat.le_max_left k1 k2) hk1]
                exact finish_mono (evD_le (Nat.le_max_right k1 k2)) hk2
              | ret =>
                simp only [hc] at h
                obtain ⟨k2, hk2⟩ := finish_ext ihD h
                refine ⟨max k1 k2 + 1, ?_⟩
                rw [evFn]; simp only [hf, hb, if_pos hok, evC_le (Nat.le_max_left k1 k2) hk1]
                exact finish_mono (evD_le (Nat.le_max_right k1 k2)) hk2
              | panic v =>
                simp only [hc] at h
                obtain ⟨k2, hk2⟩ := finish_ext ihD h
                refine ⟨max k1 k2 + 1, ?_⟩
                rw [evFn]; simp only [hf, hb, if_pos hok, evC_le (Nat.le_max_left k1 k2) hk1]
                exact finish_mono (evD_le (Nat.le_max_right k1 k2)) hk2
              | exit id => simp [hc] at h
          · simp at h
    · intro f args out p r h
      rw [evD] at h
      have hP : (withExt X e).P = X.P := rfl
      rw [hP] at h
      cases hf : X.P.funcs[f]? with
      | none => simp [hf] at h
      | some fn =>
        simp only [hf] at h
        split at h
        · rename_i id ops c hb
          split at h
          · rename_i o os ho
            split at h
            · rename_i hok
              split at h
              · rename_i st hx
                obtain ⟨k1, hk1⟩ := evOps_ext hs ihF _ _ _ hx
                split at h
                · rename_i st' hy
                  obtain ⟨k2, hk2⟩ := ihC _ _ _ hy
                  refine ⟨max k1 k2 + 1, ?_⟩
                  rw [evD]
                  simp only [hf, hb, ho, if_pos hok, evOps_mono (evFn_le (Nat.le_max_left k1 k2)) _ _ _ hk1, evC_le (Nat.le_max_right k1 k2) hk2]
                  exact h
                · rename_i st' hy
                  obtain ⟨k2, hk2⟩ := ihC _ _ _ hy
                  refine ⟨max k1 k2 + 1, ?_⟩
                  rw [evD]
                  simp only [hf, hb, ho, if_pos hok, evOps_mono (evFn_le (Nat.le_max_left k1 k2)) _ _ _ hk1, evC_le (Nat.le_max_right k1 k2) hk2]
                  exact h
                · simp at h
              · simp at h
            · simp at h
          · simp at h
        · simp at h
mutual
def eqV : Nat → V → V → Bool
  | 0, _, _ => false
  | n + 1, a, b =>
    match a, b with
    | .int k x, .int k' y => decide (k = k') && x == y
    | .str x, .str y => x == y
    | .bool x, .bool y => x == y
    | .sl xs, .sl ys => eqVs n xs ys
    | .agg xs, .agg ys => eqVs n xs ys
    | _, _ => false
def eqVs : Nat → List V → List V → Bool
  | 0, _, _ => false
  | n + 1, a, b =>
    match a, b with
    | [], [] => true
    | x :: xs, y :: ys => eqV n x y && eqVs n xs ys
    | _, _ => false
end
theorem eqV_sound : ∀ n, (∀ a b, eqV n a b = true → a = b) ∧ (∀ a b, eqVs n a b = true → a = b) := by
  intro n
  induction n with
  | zero => exact ⟨fun a b h => by simp [eqV] at h, fun a b h => by simp [eqVs] at h⟩
  | succ n ih =>
    refine ⟨fun a b h => ?_, fun a b h => ?_⟩
    · unfold eqV at h
      split at h
      · simp only [Bool.and_eq_true, decide_eq_true_eq, beq_iff_eq] at h; rw [h.1, h.2]
      · rw [beq_iff_eq.1 h]
      · rw [beq_iff_eq.1 h]
      · rw [ih.2 _ _ h]
      · rw [ih.2 _ _ h]
      · simp at h
    · unfold eqVs at h
      split at h
      · rfl
      · simp only [Bool.and_eq_true] at h; rw [ih.1 _ _ h.1, ih.2 _ _ h.2]
      · simp at h
def lookT (f : FuncId) (args : List V) : List (FuncId × List V × V) → Option V
  | [] => none
  | p :: T => if p.1 = f ∧ eqVs 1000 p.2.1 args = true then some p.2.2 else lookT f args T
theorem lookT_mem {f : FuncId} {args : List V} {v : V} : ∀ {T : List (FuncId × List V × V)}, lookT f args T = some v → (f, args, v) ∈ T
  | p :: T, h => by
    rw [lookT] at h
    split at h
    · rename_i hc
      obtain ⟨rfl, h2⟩ := hc
      have := (eqV_sound 1000).2 _ _ h2
      subst this
      simp only [Option.some.injEq] at h; subst h
      exact List.mem_cons_self
    · exact List.mem_cons_of_mem _ (lookT_mem h)
def tabExt (X : Env) (T : List (FuncId × List V × V)) (f : FuncId) (args : List V) : Option V :=
  match X.ext f args with
  | some v => some v
  | none => lookT f args T
theorem tab_sim {X : Env} {T : List (FuncId × List V × V)} (h : ∀ p ∈ T, Ans X p.1 p.2.1 (.ret p.2.2)) : ExtSim X (tabExt X T) := by
  refine ⟨fun f args v hx => by unfold tabExt; rw [hx], fun f args v hx => ?_⟩
  unfold tabExt at hx
  split at hx
  · rename_i v' hv; rw [hv]; exact .inl hx
  · rename_i hn
    obtain ⟨out, k, hk⟩ := (h _ (lookT_mem hx)).runs
    exact .inr ⟨hn, k, out, hk⟩
theorem runs_tab {X : Env} {T : List (FuncId × List V × V)} (h : ∀ p ∈ T, Ans X p.1 p.2.1 (.ret p.2.2)) {n : Nat} {f : FuncId} {args : List V} {b : Bool}
    (e : (match evFn (withExt X (tabExt X T)) n f args [] with | some (.ret (.bool c), _) => c == b | _ => false) = true) : Runs X f args (.ret (.bool b)) := by
  split at e
  · rename_i c out he
    have hb : c = b := by simpa using e
    subst hb
    obtain ⟨k, hk⟩ := (ev_ext (tab_sim h) n).2.1 _ _ _ _ he
    exact ⟨out, k, hk⟩
  · simp at e
end
end Go.Ev
namespace Go.Proofs.YtpocekfifokndaaDoor
open Go Go.Ev Go.Pl
set_option maxRecDepth 100000
set_option maxHeartbeats 4000000
def pairKV (f : Nat) : V := .agg [.sl (nats (digK f)), .sl (nats (recK (zi (digK f))).1)]
theorem pairKV_eq (f : Nat) : pairV f = pairKV f := by rw [pairV, pairKV, rec_N, dig_N]
def texts : List (List UInt8) := [[48], [48, 58, 49], [49, 58, 54, 48], [49, 58, 48, 53], [49, 58, 48], [49, 58, 58, 50], [], [49, 58, 50, 58], [48, 48],
  [49, 58, 50, 58, 51, 58, 52, 58, 53, 58, 54, 58, 55, 58, 56, 58, 57, 58, 49, 48, 58, 49, 49, 58, 49, 50, 58, 49, 51, 58, 49, 52, 58, 49, 53, 58, 49, 54, 58, 49, 55]]
abbrev nines (n : Nat) : List Int := List.replicate n 59
abbrev topP : List Int × Int := ([1], 64)
abbrev lowP : List Int × Int := ([1], -64)
def tabK : List (FuncId × List V × V) :=
  [(26, [], .bool true), (70, [.sl [vi 1, vi 0, vi 30]], .tup [.str [49, 58, 48, 58, 51, 48], vi 0]), (36, [vi 7200], .tup [.sl [vi 2], vi 0]), (36, [vi 4000], .tup [.sl [vi 1, vi 6, vi 40], vi 0]),
   (31, [.sl [vi 44, vi 26, vi 40]], .tup [vi 8, vi 0, vi 4, vi 0]), (40, [.sl [vi 2, vi 5]], .tup [.sl [.agg [.sl [vi 25], .sl [vi 2, vi 24]], .agg [.sl [vi 5], .sl [vi 12]]], vi 0]),
   (51, [.sl [vi 7], .sl [vi 1, vi 25]], .tup [.sl [.agg [.sl [vi 7], vi 1], .agg [.sl [vi 2, vi 20], vi 0], .agg [.sl [vi 35], vi 0]], vi 0]),
   (61, [.agg [.sl [vi 37, vi 30], vi (-2)]], .tup [.agg [vi 5, vi 8], vi 0]), (46, [vi 2, vi 4], .tup [.agg [.sl [vi 1, vi 24, vi 51, vi 10], vi (-3)], vi 0]),
   (53, [vi 1], .tup [.sl (wantL.map pairKV), vi 0]),
   (23, [.sl (ints (nines 8)), .sl (ints (nines 8))], .tup [.sl (nats (mulK (nines 8) (nines 8)).1), vi (mulK (nines 8) (nines 8)).2]),
   (23, [.sl (ints (nines 16)), .sl (ints [2])], .tup [.sl (nats (mulK (nines 16) [2]).1), vi (mulK (nines 16) [2]).2]),
   (32, [.sl (ints (nines 16))], .tup [.sl (nats (recK (nines 16)).1), vi (recK (nines 16)).2]),
   (55, [.sl (plcsV [topP, lowP])], .tup [.agg [.sl [], vi 0], vi 3]),
   (55, [.sl (plcsV (List.replicate 60 topP))], .tup [.agg [.sl [], vi 0], vi 3]),
   (57, [plcV lowP, plcV topP], .tup [vi (-1), vi 0]),
   (44, [vi 0, vi 1], .tup [.agg [.sl [], vi 0], .agg [.sl [], vi 0], vi 8]), (46, [vi 1, vi 6], .tup [.agg [.sl [], vi 0], vi 8])] ++
  texts.map (fun s => (34, [.str s], .tup [.sl (nats (parseS s).1), vn (parseS s).2.1, vi (parseS s).2.2])) ++
  wantL.map (fun f => (23, [.sl (nats (digK f)), .sl (nats (recK (zi (digK f))).1)], .tup [.sl [vi 1], vi 0]))
theorem sumP (l : List (List Int × Int)) (h1 : l.length ≤ 64) (h2 : ferr l = 0) (h3 : ¬ (sumN l = 0 ∨ ((digK (sumN l)).length ≤ 16 ∧ -64 ≤ -64 + ((vzK (sumN l) (sumN l) : Nat) : Int) ∧ -64 + ((vzK (sumN l) (sumN l) : Nat) : Int) ≤ 64))) : sumS l = ([], 0, 3) := by
  rw [sumS, if_neg (by omega), if_neg (by rw [h2]; simp), if_neg]
  unfold goodP
  rw [dig_N, vz_N]
  exact h3
theorem tabK_ok : ∀ p ∈ tabK, Ans X p.1 p.2.1 (.ret p.2.2) := by
  intro p hp
  simp only [tabK, List.mem_append, List.mem_cons, List.not_mem_nil, or_false, List.mem_map] at hp
  rcases hp with ((rfl | rfl | rfl | rfl | rfl | rfl | rfl | rfl | rfl | rfl | rfl | rfl | rfl | rfl | rfl | rfl | rfl | rfl) | ⟨s, hs, rfl⟩) | ⟨f, hf, rfl⟩
  · exact P26
  · exact wk70
  · exact wk36a
  · exact wk36b
  · exact wk31
  · exact wk40
  · exact wk51
  · exact wk61
  · exact wk46
  · have h := wk53
    rw [pairsV, show pairV = pairKV from funext pairKV_eq] at h
    exact h
  · have h := P23 (nines 8) (nines 8)
    rw [mul_N] at h; exact h
  · have h := P23 (nines 16) [2]
    rw [mul_N] at h; exact h
  · have h := P32 (nines 16)
    rw [rec_N] at h; exact h
  · have h := P55 [topP, lowP]
    rw [sumP _ (by decide) (by decide +kernel) (by decide +kernel)] at h
    exact h
  · have h := P55 (List.replicate 60 topP)
    rw [sumP _ (by decide) (by decide +kernel) (by decide +kernel)] at h
    exact h
  · have h := P57 lowP topP
    rw [show cmpS lowP topP = (-1, 0) by decide +kernel] at h
    exact h
  · exact P44e 0 1 (by decide)
  · exact P46e 1 6 (by decide)
  · have hl : texts.all (fun s => decide (s.length < 100)) = true := by decide
    have := of_decide_eq_true (List.all_eq_true.1 hl s hs)
    exact P34 s (by omega)
  · obtain ⟨k, hk⟩ := List.mem_iff_getElem?.1 hf
    obtain ⟨h1, h2⟩ := want_at hk
    have h := P23 (zi [f]) (zi (recS (zi [f])).1)
    have e1 : digK f = [f] := by rw [← dig_N]; exact h1
    rw [h2, ← nats_zi, ← nats_zi, rec_N] at h
    dsimp only
    rw [e1]
    exact h
theorem P22 : Ans X 22 [] (.ret (.bool true)) :=
  ⟨rfl, rfl, fun _ => rfl, fun v hv => by injection hv with hv; subst hv; rfl, runs_tab tabK_ok (n := 300) (by kernel_rfl)⟩
end Go.Proofs.YtpocekfifokndaaDoor
