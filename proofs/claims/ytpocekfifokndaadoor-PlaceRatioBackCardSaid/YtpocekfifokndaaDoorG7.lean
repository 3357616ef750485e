/- Part 7 of the proof: an evaluator of the program, proved sound against the model, and what the functions of the program compute. No condition but those each theorem states. -/
import Derived.Test.YtpocekfifokndaaDoorG2
import Derived.Test.YtpocekfifokndaaDoorG6
set_option linter.unusedSimpArgs false
set_option linter.unusedVariables false
namespace Go.Proofs.YtpocekfifokndaaDoor
open Go Go.Ev Go.Pl
set_option maxRecDepth 100000
set_option maxHeartbeats 4000000
def cmpS (p q : List Int × Int) : Int × Int := if chkP p.1 p.2 ≠ 0 then (0, chkP p.1 p.2) else if chkP q.1 q.2 ≠ 0 then (0, chkP q.1 q.2) else (cmpN (valN p) (valN q), 0)
theorem cmpN_mul (N M k : Nat) : cmpN (N * 60 ^ k) (M * 60 ^ k) = cmpN N M := by
  unfold cmpN
  have hp := pow_pos k
  by_cases c : N < M
  · rw [if_pos c, if_pos (Nat.mul_lt_mul_of_pos_right c hp)]
  · have h1 : ¬ N * 60 ^ k < M * 60 ^ k := fun e => c (Nat.lt_of_mul_lt_mul_right e)
    rw [if_neg c, if_neg h1]
    by_cases c2 : M < N
    · rw [if_pos c2, if_pos (Nat.mul_lt_mul_of_pos_right c2 hp)]
    · rw [if_neg c2, if_neg (fun e => c2 (Nat.lt_of_mul_lt_mul_right e))]
theorem wide_of {p : List Int × Int} (h : chkP p.1 p.2 = 0) : ints p.1 = nats (natsOf p.1) ∧ Ans X 86 [.sl (nats (natsOf p.1)), vi p.2] (.ret (wv (valN p * 60 ^ 8))) ∧ valN p * 60 ^ 8 < 60 ^ 152 := by
  obtain ⟨hc, hs1, hs2⟩ := chkP_ok h
  obtain ⟨b1, b2, b3, b4, _⟩ := chk_ok hc
  obtain ⟨t, ht⟩ : ∃ t : Nat, (t : Int) = p.2 + 64 := ⟨(p.2 + 64).toNat, by omega⟩
  have q86 := P86 (natsOf p.1) p.2 (t + 8) (by omega) b2 (by omega)
  have hv : numL (natsOf p.1).reverse * 60 ^ (t + 8) = valN p * 60 ^ 8 := by
    rw [valN, ← ht, Int.toNat_natCast, Nat.pow_add, Nat.mul_assoc]; rfl
  rw [hv] at q86
  refine ⟨b1, q86, ?_⟩
  calc valN p * 60 ^ 8 < 60 ^ 144 * 60 ^ 8 := Nat.mul_lt_mul_of_pos_right (valN_lt h) (pow_pos 8)
    _ = 60 ^ 152 := by rw [← Nat.pow_add]
theorem P57 (p q : List Int × Int) : Ans X 57 [plcV p, plcV q] (.ret (.tup [vi (cmpS p q).1, vi (cmpS p q).2])) := by
  refine call_of_X (fn := Tryd.f57) 2 Tryd.func57 rfl (by decide +kernel) rfl ?_ ?_ ?_ ?_
  · rfl
  · exact fun _ => rfl
  · intro v hv; injection hv with hv; subst hv; rfl
  intro s hs hd ho
  have hm : s.m = ⟨.nil, []⟩ := by subst hs; rfl
  have h0 : s.t.get 0 = .agg [.sl (ints p.1), vi p.2] := by subst hs; rfl
  have h1 : s.t.get 1 = .agg [.sl (ints q.1), vi q.2] := by subst hs; rfl
  clear hs
  have q1 := P59 p.1 p.2
  have q2 := P59 q.1 q.2
  refine gPA (aI @h0 <|aI @h1 <|@hm) ?_
  refine W_loopg (fun (k : Nat) s => s.dfs = [] ∧ s.m.out.length = 0 ∧ s.t.get 2 = .ptr ⟨0, 2, 0, 1⟩ 0 0 ∧ s.t.get 3 = .ptr ⟨0, 3, 0, 1⟩ 0 0 ∧ s.t.get 14 = .agg [.sl (ints p.1), vi p.2, .sl (ints q.1), vi q.2] ∧ s.t.get 15 = vn k ∧
    s.m.row ⟨0, 2, 0, 1⟩ = some ⟨1, 54, false, false, [.agg [.sl (ints p.1), vi p.2]]⟩ ∧ s.m.row ⟨0, 3, 0, 1⟩ = some ⟨1, 54, false, false, [.agg [.sl (ints q.1), vi q.2]]⟩ ∧
    (k = 0 ∨ (k = 1 ∧ chkP p.1 p.2 = 0) ∨ (k = 2 ∧ chkP p.1 p.2 = 0 ∧ chkP q.1 q.2 = 0))) (fun k => 2 - k) 0 ?_ ?_
  · refine ⟨hd, ?_, ?_, ?_, ?_, ?_, ?_, ?_, .inl rfl⟩
    all_goals (try refine f0 (aI @h0 <|aI @h1 <|@hm) ?_);all_goals try exact True.intro
    all_goals rfl
  clear hd h0 h1 hm ho
  rintro k s ⟨hd, ho, h2, h3, h14, h15, r2, r3, hk⟩
  rcases hk with rfl | ⟨rfl, hp⟩ | ⟨rfl, hp, hq⟩
  · have h15 : s.t.get 15 = vi 0 := h15
    refine gP @h15 ?_
    refine cnd (fun h => ?_) (fun h => ?_)
    · refine gPA (aI @h2 <|aI @h3 <|aI @h14 <|aI @h15 <|aI @r2 <|aI @r3 <|aI @ho <|aI @co59 <|aI @sr59 <|@q1.iffx) ?_
      refine cnd (fun h => ?_) (fun h => ?_)
      · have h : chkP p.1 p.2 ≠ 0 := by simpa using h
        refine gP @Nat.zero_add ?_
        refine rP hd @Tryd.results57 ?_
        try exact True.intro
        rw [cmpS, if_pos h]
      · have h : chkP p.1 p.2 = 0 := by simpa using h
        refine gP (aI @h15 <|@wr_i64) ?_
        refine ⟨1, ⟨hd, ?_, ?_, ?_, ?_, ?_, ?_, ?_, .inr (.inl ⟨rfl, h⟩)⟩, by decide⟩
        all_goals (try refine f0 (aI @h2 <|aI @h3 <|aI @h14 <|aI @r2 <|aI @r3 <|@ho) ?_);all_goals try exact True.intro
        all_goals rfl
    · simp at h
  · have h15 : s.t.get 15 = vi 1 := h15
    refine gP @h15 ?_
    refine cnd (fun h => ?_) (fun h => ?_)
    · refine gPA (aI @h2 <|aI @h3 <|aI @h14 <|aI @h15 <|aI @r2 <|aI @r3 <|aI @ho <|aI @co59 <|aI @sr59 <|@q2.iffx) ?_
      refine cnd (fun h => ?_) (fun h => ?_)
      · have h : chkP q.1 q.2 ≠ 0 := by simpa using h
        refine gP @Nat.zero_add ?_
        refine rP hd @Tryd.results57 ?_
        try exact True.intro
        rw [cmpS, if_neg (fun e => e hp), if_pos h]
      · have h : chkP q.1 q.2 = 0 := by simpa using h
        refine gP (aI @h15 <|@wr_i64) ?_
        refine ⟨2, ⟨hd, ?_, ?_, ?_, ?_, ?_, ?_, ?_, .inr (.inr ⟨rfl, hp, h⟩)⟩, by decide⟩
        all_goals (try refine f0 (aI @h2 <|aI @h3 <|aI @h14 <|aI @r2 <|aI @r3 <|@ho) ?_);all_goals try exact True.intro
        all_goals rfl
    · simp at h
  · have h15 : s.t.get 15 = vi 2 := h15
    rw [cmpS, if_neg (fun e => e hp), if_neg (fun e => e hq), ← cmpN_mul _ _ 8]
    obtain ⟨b1, w1, l1⟩ := wide_of hp
    obtain ⟨b2, w2, l2⟩ := wide_of hq
    rw [b1] at r2
    rw [b2] at r3
    have l1 := lt_pow_mono l1 (by decide : 152 ≤ 168)
    have l2 := lt_pow_mono l2 (by decide : 152 ≤ 168)
    obtain ⟨N, hNe⟩ : ∃ N, N = valN p * 60 ^ 8 := ⟨_, rfl⟩
    obtain ⟨M, hMe⟩ : ∃ M, M = valN q * 60 ^ 8 := ⟨_, rfl⟩
    rw [← hNe] at w1 l1 ⊢
    rw [← hMe] at w2 l2 ⊢
    clear hNe hMe
    clear q1 q2 hp hq b1 b2 h14
    have z1 : N / 60 ^ 168 = M / 60 ^ 168 := by rw [Nat.div_eq_of_lt l1, Nat.div_eq_of_lt l2]
    clear l1 l2
    refine gP @h15 ?_
    refine cnd (fun h => ?_) (fun h => ?_)
    · simp at h
    clear h
    refine gPASW (aI @h2 <|aI @h3 <|aI @r2 <|aI @r3 <|aI @ho <|aI @co86 <|aI @sr86 <|aI @w1.iffx <|aI @w2.iffx <|aI @rowsOf_aggl <|@ptrs_aggl) ?_
    obtain ⟨g9, hg9⟩ : ∃ g, s.m.gen 9 0 + 1 = g := ⟨_, rfl⟩
    obtain ⟨g10, hg10⟩ : ∃ g, s.m.gen 10 0 + 1 = g := ⟨_, rfl⟩
    refine W_loopg (fun (k : Nat) s => s.dfs = [] ∧ s.m.out.length = 0 ∧ s.t.get 9 = .ptr ⟨0, 9, 0, g9⟩ 0 0 ∧ s.t.get 10 = .ptr ⟨0, 10, 0, g10⟩ 0 0 ∧ s.t.get 11 = vi ((k : Int) - 1) ∧
      s.m.row ⟨0, 9, 0, g9⟩ = some ⟨g9, 100, false, false, [wv N]⟩ ∧ s.m.row ⟨0, 10, 0, g10⟩ = some ⟨g10, 100, false, false, [wv M]⟩ ∧ k ≤ 168 ∧ N / 60 ^ k = M / 60 ^ k) (fun k => k) 168 ?_ ?_
    · refine ⟨hd, ?_, ?_, ?_, ?_, ?_, ?_, Nat.le_refl _, z1⟩
      all_goals (try refine fW (aI @h2 <|aI @h3 <|aI @r2 <|aI @r3 <|aI @ho <|aI @hg9 <|@hg10) ?_);all_goals try exact True.intro
      all_goals rfl
    clear hd ho h2 h3 h15 r2 r3 w1 w2 z1 hg9 hg10
    rintro k s ⟨hd, ho, h9, h10, h11, r9, r10, hk, hq⟩
    refine gP @h11 ?_
    refine cnd (fun h => ?_) (fun h => ?_)
    · have hk0 : 0 < k := by have := of_decide_eq_true h; omega
      obtain ⟨i, rfl⟩ : ∃ i, k = i + 1 := ⟨k - 1, by omega⟩
      clear h
      have h11' : s.t.get 11 = vn i := by rw [h11]; congr 1; omega
      clear h11
      have hi168 : i < 168 := by omega
      have g1 : (wc (dig N))[i]? = some (vn (dig N i)) := wc_get _ hi168
      have g2 : (wc (dig M))[i]? = some (vn (dig M i)) := wc_get _ hi168
      have hin : (i : Int) < (168 : Int) := by omega
      have hin2 : (i : Int) < ((168 : Nat) : Int) := by omega
      have hi0 : (0 : Int) ≤ (i : Int) := by omega
      have d1 := div_succ N i
      have d2 := div_succ M i
      have e4 : V.int .i64 (wr .i64 ((i : Int) - 1)) = vi ((i : Int) - 1) := by rw [wr_i64 (by omega) (by omega)]
      generalize hx : dig N i = x at *
      generalize hy : dig M i = y at *
      by_cases c1 : (x : Int) < (y : Int)
      · have hlt : N < M := div_lt_lt (k := i) (by omega)
        have hcm : cmpN N M = -1 := by rw [cmpN, if_pos hlt]
        rw [hcm]
        clear d1 d2 hq
        refine gPASW (aI @h9 <|aI @h10 <|aI @h11' <|aI @r9 <|aI @r10 <|aI @ho <|aI @g1 <|aI @g2 <|aI @hi168 <|aI @hin <|aI @hin2 <|aI @hi0 <|@c1) ?_
        refine cnd (fun h => ?_) (fun h => ?_)
        · refine gP @Nat.zero_add ?_
          refine rP hd @Tryd.results57 ?_
          try exact True.intro
        · simp at h
      by_cases c2 : (x : Int) > (y : Int)
      · have hlt : M < N := div_lt_lt (k := i) (by omega)
        have hcm : cmpN N M = 1 := by rw [cmpN, if_neg (by omega), if_pos hlt]
        rw [hcm]
        clear d1 d2 hq
        refine gPASW (aI @h9 <|aI @h10 <|aI @h11' <|aI @r9 <|aI @r10 <|aI @ho <|aI @g1 <|aI @g2 <|aI @hi168 <|aI @hin <|aI @hin2 <|aI @hi0 <|@c1) ?_
        refine cnd (fun h => ?_) (fun h => ?_)
        · simp at h
        refine gPASW (aI @h9 <|aI @h10 <|aI @h11' <|aI @r9 <|aI @r10 <|aI @ho <|aI @g1 <|aI @g2 <|aI @hi168 <|aI @hin <|aI @hin2 <|aI @hi0 <|@c2) ?_
        refine cnd (fun h => ?_) (fun h => ?_)
        · refine gP @Nat.zero_add ?_
          refine rP hd @Tryd.results57 ?_
          try exact True.intro
        · simp at h
      have hqi : N / 60 ^ i = M / 60 ^ i := by omega
      clear d1 d2 hq
      refine gPASW (aI @h9 <|aI @h10 <|aI @h11' <|aI @r9 <|aI @r10 <|aI @ho <|aI @g1 <|aI @g2 <|aI @hi168 <|aI @hin <|aI @hin2 <|aI @hi0 <|@c1) ?_
      refine cnd (fun h => ?_) (fun h => ?_)
      · simp at h
      refine gPASW (aI @h9 <|aI @h10 <|aI @h11' <|aI @r9 <|aI @r10 <|aI @ho <|aI @g1 <|aI @g2 <|aI @hi168 <|aI @hin <|aI @hin2 <|aI @hi0 <|@c2) ?_
      refine cnd (fun h => ?_) (fun h => ?_)
      · simp at h
      refine gP (aI @h11' <|@e4) ?_
      refine ⟨i, ⟨hd, ?_, ?_, ?_, ?_, ?_, ?_, by omega, hqi⟩, by omega⟩
      all_goals (try refine f0 (aI @h9 <|aI @h10 <|aI @r9 <|aI @r10 <|@ho) ?_);all_goals try exact True.intro
    · have hk0 : k = 0 := by have := of_decide_eq_false h; omega
      subst hk0
      rw [Nat.pow_zero, Nat.div_one, Nat.div_one] at hq
      have hcm : cmpN N M = 0 := by rw [cmpN, if_neg (by omega), if_neg (by omega)]
      rw [hcm]
      refine gP @Nat.zero_add ?_
      refine rP hd @Tryd.results57 ?_
      try exact True.intro
end Go.Proofs.YtpocekfifokndaaDoor
