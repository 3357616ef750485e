/- Part 11 of the proof: an evaluator of the program, proved sound against the model, and what the functions of the program compute. No condition but those each theorem states. -/
import Derived.Test.YtpocekfifokndaaDoorG2
import Derived.Test.YtpocekfifokndaaDoorG10
import Derived.Test.YtpocekfifokndaaDoorG8
import Derived.Test.YtpocekfifokndaaDoorG5
set_option linter.unusedSimpArgs false
set_option linter.unusedVariables false
namespace Go.Proofs.YtpocekfifokndaaDoor
open Go Go.Ev Go.Pl
set_option maxRecDepth 100000
set_option maxHeartbeats 4000000
def cmpS (p q : List Int × Int) : Int × Int := if chkP p.1 p.2 ≠ 0 then (0, chkP p.1 p.2) else if chkP q.1 q.2 ≠ 0 then (0, chkP q.1 q.2) else (cmpN (valN p) (valN q), 0)
theorem cmpN_mul (N M k : Nat) : cmpN (N * 60 ^ k) (M * 60 ^ k) = cmpN N M := by
  unfold cmpN
  have hp := pow_pos k
  by_cases c : N < M
  · rw [if_pos c, if_pos (Nat.mul_lt_mul_of_pos_right c hp)]
  · have h1 : ¬ N * 60 ^ k < M * 60 ^ k := fun e => c (Nat.lt_of_mul_lt_mul_right e)
    rw [if_neg c, if_neg h1]
    by_cases c2 : M < N
    · rw [if_pos c2, if_pos (Nat.mul_lt_mul_of_pos_right c2 hp)]
    · rw [if_neg c2, if_neg (fun e => c2 (Nat.lt_of_mul_lt_mul_right e))]
theorem wide_of {p : List Int × Int} (h : chkP p.1 p.2 = 0) : ints p.1 = nats (natsOf p.1) ∧ Ans X 86 [.sl (nats (natsOf p.1)), vi p.2] (.ret (wv (valN p * 60 ^ 8))) ∧ valN p * 60 ^ 8 < 60 ^ 152 := by
  obtain ⟨hc, hs1, hs2⟩ := chkP_ok h
  obtain ⟨b1, b2, b3, b4, _⟩ := chk_ok hc
  obtain ⟨t, ht⟩ : ∃ t : Nat, (t : Int) = p.2 + 64 := ⟨(p.2 + 64).toNat, by omega⟩
  have q86 := P86 (natsOf p.1) p.2 (t + 8) (by omega) b2 (by omega)
  have hv : numL (natsOf p.1).reverse * 60 ^ (t + 8) = valN p * 60 ^ 8 := by
    rw [valN, ← ht, Int.toNat_natCast, Nat.pow_add, Nat.mul_assoc]; rfl
  rw [hv] at q86
  refine ⟨b1, q86, ?_⟩
  calc valN p * 60 ^ 8 < 60 ^ 144 * 60 ^ 8 := Nat.mul_lt_mul_of_pos_right (valN_lt h) (pow_pos 8)
    _ = 60 ^ 152 := by rw [← Nat.pow_add]
theorem P57 (p q : List Int × Int) : Ans X 57 [plcV p, plcV q] (.ret (.tup [vi (cmpS p q).1, vi (cmpS p q).2])) := by
  refine call_of_X (fn := Tryd.f57) 2 Tryd.func57 rfl (by decide +kernel) rfl ?_ ?_ ?_ ?_
  · rfl
  · exact fun _ => rfl
  · intro v hv; injection hv with hv; subst hv; rfl
  intro s hs hd ho
  have hm : s.m = ⟨.nil, []⟩ := by subst hs; rfl
  have h0 : s.t.get 0 = .agg [.sl (ints p.1), vi p.2] := by subst hs; rfl
  have h1 : s.t.get 1 = .agg [.sl (ints q.1), vi q.2] := by subst hs; rfl
  clear hs
  have q1 := P59 p.1 p.2
  have q2 := P59 q.1 q.2
  refine gPA (aI @h0 <|aI @h1 <|@hm) ?_
  refine W_loopg (fun (k : Nat) s => s.dfs = [] ∧ s.m.out.length = 0 ∧ s.t.get 2 = .ptr ⟨0, 2, 0, 1⟩ 0 0 ∧ s.t.get 3 = .ptr ⟨0, 3, 0, 1⟩ 0 0 ∧ s.t.get 14 = .agg [.sl (ints p.1), vi p.2, .sl (ints q.1), vi q.2] ∧ s.t.get 15 = vn k ∧
    s.m.row ⟨0, 2, 0, 1⟩ = some ⟨1, 54, false, false, [.agg [.sl (ints p.1), vi p.2]]⟩ ∧ s.m.row ⟨0, 3, 0, 1⟩ = some ⟨1, 54, false, false, [.agg [.sl (ints q.1), vi q.2]]⟩ ∧
    (k = 0 ∨ (k = 1 ∧ chkP p.1 p.2 = 0) ∨ (k = 2 ∧ chkP p.1 p.2 = 0 ∧ chkP q.1 q.2 = 0))) (fun k => 2 - k) 0 ?_ ?_
  · refine ⟨hd, ?_, ?_, ?_, ?_, ?_, ?_, ?_, .inl rfl⟩
    all_goals (try refine f0 (aI @h0 <|aI @h1 <|@hm) ?_);all_goals try exact True.intro
    all_goals rfl
  clear hd h0 h1 hm ho
  rintro k s ⟨hd, ho, h2, h3, h14, h15, r2, r3, hk⟩
  rcases hk with rfl | ⟨rfl, hp⟩ | ⟨rfl, hp, hq⟩
  · have h15 : s.t.get 15 = vi 0 := h15
    refine gP @h15 ?_
    refine cnd (fun h => ?_) (fun h => ?_)
    · refine gPA (aI @h2 <|aI @h3 <|aI @h14 <|aI @h15 <|aI @r2 <|aI @r3 <|aI @ho <|aI @co59 <|aI @sr59 <|@q1.iffx) ?_
      refine cnd (fun h => ?_) (fun h => ?_)
      · have h : chkP p.1 p.2 ≠ 0 := by simpa using h
        refine gP @Nat.zero_add ?_
        refine rP hd @Tryd.results57 ?_
        try exact True.intro
        rw [cmpS, if_pos h]
      · have h : chkP p.1 p.2 = 0 := by simpa using h
        refine gP (aI @h15 <|@wr_i64) ?_
        refine ⟨1, ⟨hd, ?_, ?_, ?_, ?_, ?_, ?_, ?_, .inr (.inl ⟨rfl, h⟩)⟩, by decide⟩
        all_goals (try refine f0 (aI @h2 <|aI @h3 <|aI @h14 <|aI @r2 <|aI @r3 <|@ho) ?_);all_goals try exact True.intro
        all_goals rfl
    · simp at h
  · have h15 : s.t.get 15 = vi 1 := h15
    refine gP @h15 ?_
    refine cnd (fun h => ?_) (fun h => ?_)
    · refine gPA (aI @h2 <|aI @h3 <|aI @h14 <|aI @h15 <|aI @r2 <|aI @r3 <|aI @ho <|aI @co59 <|aI @sr59 <|@q2.iffx) ?_
      refine cnd (fun h => ?_) (fun h => ?_)
      · have h : chkP q.1 q.2 ≠ 0 := by simpa using h
        refine gP @Nat.zero_add ?_
        refine rP hd @Tryd.results57 ?_
        try exact True.intro
        rw [cmpS, if_neg (fun e => e hp), if_pos h]
      · have h : chkP q.1 q.2 = 0 := by simpa using h
        refine gP (aI @h15 <|@wr_i64) ?_
        refine ⟨2, ⟨hd, ?_, ?_, ?_, ?_, ?_, ?_, ?_, .inr (.inr ⟨rfl, hp, h⟩)⟩, by decide⟩
        all_goals (try refine f0 (aI @h2 <|aI @h3 <|aI @h14 <|aI @r2 <|aI @r3 <|@ho) ?_);all_goals try exact True.intro
        all_goals rfl
    · simp at h
  · have h15 : s.t.get 15 = vi 2 := h15
    rw [cmpS, if_neg (fun e => e hp), if_neg (fun e => e hq), ← cmpN_mul _ _ 8]
    obtain ⟨b1, w1, l1⟩ := wide_of hp
    obtain ⟨b2, w2, l2⟩ := wide_of hq
    rw [b1] at r2
    rw [b2] at r3
    have l1 := lt_pow_mono l1 (by decide : 152 ≤ 168)
    have l2 := lt_pow_mono l2 (by decide : 152 ≤ 168)
    obtain ⟨N, hNe⟩ : ∃ N, N = valN p * 60 ^ 8 := ⟨_, rfl⟩
    obtain ⟨M, hMe⟩ : ∃ M, M = valN q * 60 ^ 8 := ⟨_, rfl⟩
    rw [← hNe] at w1 l1 ⊢
    rw [← hMe] at w2 l2 ⊢
    clear hNe hMe
    clear q1 q2 hp hq b1 b2 h14
    have z1 : N / 60 ^ 168 = M / 60 ^ 168 := by rw [Nat.div_eq_of_lt l1, Nat.div_eq_of_lt l2]
    clear l1 l2
    refine gP @h15 ?_
    refine cnd (fun h => ?_) (fun h => ?_)
    · simp at h
    clear h
    refine gPASW (aI @h2 <|aI @h3 <|aI @r2 <|aI @r3 <|aI @ho <|aI @co86 <|aI @sr86 <|aI @w1.iffx <|aI @w2.iffx <|aI @rowsOf_aggl <|@ptrs_aggl) ?_
    obtain ⟨g9, hg9⟩ : ∃ g, s.m.gen 9 0 + 1 = g := ⟨_, rfl⟩
    obtain ⟨g10, hg10⟩ : ∃ g, s.m.gen 10 0 + 1 = g := ⟨_, rfl⟩
    refine W_loopg (fun (k : Nat) s => s.dfs = [] ∧ s.m.out.length = 0 ∧ s.t.get 9 = .ptr ⟨0, 9, 0, g9⟩ 0 0 ∧ s.t.get 10 = .ptr ⟨0, 10, 0, g10⟩ 0 0 ∧ s.t.get 11 = vi ((k : Int) - 1) ∧
      s.m.row ⟨0, 9, 0, g9⟩ = some ⟨g9, 100, false, false, [wv N]⟩ ∧ s.m.row ⟨0, 10, 0, g10⟩ = some ⟨g10, 100, false, false, [wv M]⟩ ∧ k ≤ 168 ∧ N / 60 ^ k = M / 60 ^ k) (fun k => k) 168 ?_ ?_
    · refine ⟨hd, ?_, ?_, ?_, ?_, ?_, ?_, Nat.le_refl _, z1⟩
      all_goals (try refine fW (aI @h2 <|aI @h3 <|aI @r2 <|aI @r3 <|aI @ho <|aI @hg9 <|@hg10) ?_);all_goals try exact True.intro
      all_goals rfl
    clear hd ho h2 h3 h15 r2 r3 w1 w2 z1 hg9 hg10
    rintro k s ⟨hd, ho, h9, h10, h11, r9, r10, hk, hq⟩
    refine gP @h11 ?_
    refine cnd (fun h => ?_) (fun h => ?_)
    · have hk0 : 0 < k := by have := of_decide_eq_true h; omega
      obtain ⟨i, rfl⟩ : ∃ i, k = i + 1 := ⟨k - 1, by omega⟩
      clear h
      have h11' : s.t.get 11 = vn i := by rw [h11]; congr 1; omega
      clear h11
      have hi168 : i < 168 := by omega
      have g1 : (wc (dig N))[i]? = some (vn (dig N i)) := wc_get _ hi168
      have g2 : (wc (dig M))[i]? = some (vn (dig M i)) := wc_get _ hi168
      have hin : (i : Int) < (168 : Int) := by omega
      have hin2 : (i : Int) < ((168 : Nat) : Int) := by omega
      have hi0 : (0 : Int) ≤ (i : Int) := by omega
      have d1 := div_succ N i
      have d2 := div_succ M i
      have e4 : V.int .i64 (wr .i64 ((i : Int) - 1)) = vi ((i : Int) - 1) := by rw [wr_i64 (by omega) (by omega)]
      generalize hx : dig N i = x at *
      generalize hy : dig M i = y at *
      by_cases c1 : (x : Int) < (y : Int)
      · have hlt : N < M := div_lt_lt (k := i) (by omega)
        have hcm : cmpN N M = -1 := by rw [cmpN, if_pos hlt]
        rw [hcm]
        clear d1 d2 hq
        refine gPASW (aI @h9 <|aI @h10 <|aI @h11' <|aI @r9 <|aI @r10 <|aI @ho <|aI @g1 <|aI @g2 <|aI @hi168 <|aI @hin <|aI @hin2 <|aI @hi0 <|@c1) ?_
        refine cnd (fun h => ?_) (fun h => ?_)
        · refine gP @Nat.zero_add ?_
          refine rP hd @Tryd.results57 ?_
          try exact True.intro
        · simp at h
      by_cases c2 : (x : Int) > (y : Int)
      · have hlt : M < N := div_lt_lt (k := i) (by omega)
        have hcm : cmpN N M = 1 := by rw [cmpN, if_neg (by omega), if_pos hlt]
        rw [hcm]
        clear d1 d2 hq
        refine gPASW (aI @h9 <|aI @h10 <|aI @h11' <|aI @r9 <|aI @r10 <|aI @ho <|aI @g1 <|aI @g2 <|aI @hi168 <|aI @hin <|aI @hin2 <|aI @hi0 <|@c1) ?_
        refine cnd (fun h => ?_) (fun h => ?_)
        · simp at h
        refine gPASW (aI @h9 <|aI @h10 <|aI @h11' <|aI @r9 <|aI @r10 <|aI @ho <|aI @g1 <|aI @g2 <|aI @hi168 <|aI @hin <|aI @hin2 <|aI @hi0 <|@c2) ?_
        refine cnd (fun h => ?_) (fun h => ?_)
        · refine gP @Nat.zero_add ?_
          refine rP hd @Tryd.results57 ?_
          try exact True.intro
        · simp at h
      have hqi : N / 60 ^ i = M / 60 ^ i := by omega
      clear d1 d2 hq
      refine gPASW (aI @h9 <|aI @h10 <|aI @h11' <|aI @r9 <|aI @r10 <|aI @ho <|aI @g1 <|aI @g2 <|aI @hi168 <|aI @hin <|aI @hin2 <|aI @hi0 <|@c1) ?_
      refine cnd (fun h => ?_) (fun h => ?_)
      · simp at h
      refine gPASW (aI @h9 <|aI @h10 <|aI @h11' <|aI @r9 <|aI @r10 <|aI @ho <|aI @g1 <|aI @g2 <|aI @hi168 <|aI @hin <|aI @hin2 <|aI @hi0 <|@c2) ?_
      refine cnd (fun h => ?_) (fun h => ?_)
      · simp at h
      refine gP (aI @h11' <|@e4) ?_
      refine ⟨i, ⟨hd, ?_, ?_, ?_, ?_, ?_, ?_, by omega, hqi⟩, by omega⟩
      all_goals (try refine f0 (aI @h9 <|aI @h10 <|aI @r9 <|aI @r10 <|@ho) ?_);all_goals try exact True.intro
    · have hk0 : k = 0 := by have := of_decide_eq_false h; omega
      subst hk0
      rw [Nat.pow_zero, Nat.div_one, Nat.div_one] at hq
      have hcm : cmpN N M = 0 := by rw [cmpN, if_neg (by omega), if_neg (by omega)]
      rw [hcm]
      refine gP @Nat.zero_add ?_
      refine rP hd @Tryd.results57 ?_
      try exact True.intro
end Go.Proofs.YtpocekfifokndaaDoor
namespace Go.Proofs.YtpocekfifokndaaDoor
open Go Go.Ev Go.Pl
set_option maxRecDepth 100000
set_option maxHeartbeats 4000000
theorem canL_rep {N : Nat} (h : 0 < N) (k : Nat) : List.replicate k 0 ++ canL N = canL (N * 60 ^ k) := (canL_shift h k).symm
theorem rep_nats (k : Nat) (l : List Nat) : List.replicate k (V.int .i64 0) ++ nats l = nats (List.replicate k 0 ++ l) := by rw [nats_append, nats_zero]
theorem P121 (p : List Int × Int) (h : chkP p.1 p.2 = 0) : Ans X 121 [plcV p] (.ret (.sl (nats (canL (valN p))))) := by
  refine call_of_X (fn := Tryd.f121) 1 Tryd.func121 rfl (by decide +kernel) rfl ?_ ?_ ?_ ?_
  · rfl
  · intro h; exact absurd h (by rw [sr121]; decide)
  · intro v hv; injection hv with hv; subst hv; rfl
  intro s hs hd ho
  have hm : s.m = ⟨.nil, []⟩ := by subst hs; rfl
  have h0 : s.t.get 0 = .agg [.sl (ints p.1), vi p.2] := by subst hs; rfl
  clear hs
  obtain ⟨hc, hs1, hs2⟩ := chkP_ok h
  obtain ⟨b1, b2, b3, b4, _⟩ := chk_ok hc
  by_cases hl : p.1.length = 0
  · have e1 : (((p.1.length : Nat) : Int) == 0) = true := by rw [hl]; rfl
    have hz : valN p = 0 := by
      have : p.1 = [] := List.length_eq_zero_iff.1 hl
      rw [valN, this]
      show 0 * _ = 0
      exact Nat.zero_mul _
    rw [hz, canL_zero]
    refine gPA (aI @h0 <|aI @hm <|aI @ints_length <|@e1) ?_
    refine cnd (fun h => ?_) (fun h => ?_)
    · refine gPA @hm ?_
      refine rPAS hd (aI @Tryd.results121 <|@hm) ?_
      try exact True.intro
      rfl
    · simp at h
  · have e1 : (((p.1.length : Nat) : Int) == 0) = false := by rw [beq_eq_false_iff_ne]; omega
    have hN := numI_pos hc hl
    obtain ⟨t, ht⟩ : ∃ t : Nat, (t : Int) = p.2 + 64 := ⟨(p.2 + 64).toNat, by omega⟩
    have q85 : Ans X 85 [.sl (nats (natsOf p.1))] (.ret (.sl (nats (canL (numI p.1))))) := P85 (natsOf p.1) b2 (by omega)
    have hv : canL (valN p) = List.replicate t 0 ++ canL (numI p.1) := by
      rw [canL_rep hN, valN, ← ht, Int.toNat_natCast]
    rw [hv]
    have hnl : (natsOf p.1).length = p.1.length := b4
    have hcl := canL_length_le.2 (numI_lt hc)
    have e2 : V.int .i64 (wr .i64 (p.2 + 64)) = vn t := by rw [wr_i64 (by omega) (by omega), ← ht]
    have ht200 : t ≤ 128 := by omega
    rw [b1] at h0
    generalize natsOf p.1 = l at *
    generalize hL : canL (numI p.1) = L at *
    have e1' : (((l.length : Nat) : Int) == 0) = false := by rw [hnl]; exact e1
    have hcut : cut (List.replicate t (V.int .i64 0)) 0 t = List.replicate t (V.int .i64 0) := by
      unfold cut; rw [List.drop_zero, List.take_of_length_le (by simp)]
    clear hN hv hc ht hs1 hs2 b1 b2 b3 b4 hL h hl e1
    refine gPA (aI @h0 <|aI @hm <|aI @nats_length <|@e1') ?_
    refine cnd (fun h => ?_) (fun h => ?_)
    · simp at h
    have hcut2 : cut (nats (List.replicate t 0 ++ L)) 0 (t + L.length) = nats (List.replicate t 0 ++ L) := by
      have := cut_nats (List.replicate t 0 ++ L)
      rwa [List.length_append, List.length_replicate] at this
    refine gPAS (aI @h0 <|aI @hm <|aI @e2 <|aI @co85 <|aI @sr85 <|aI @q85.iffx <|aI @hcut <|aI @rep_nats <|aI @nats_length <|aI @nats_width <|@List.length_replicate.{0}) ?_
    refine rPAS hd (aI @Tryd.results121 <|aI @hm <|aI @hcut2 <|aI @List.length_append.{0} <|aI @List.length_replicate.{0} <|@nats_length) ?_
    try exact True.intro
end Go.Proofs.YtpocekfifokndaaDoor
namespace Go.Proofs.YtpocekfifokndaaDoor
open Go Go.Ev Go.Pl
set_option maxRecDepth 100000
set_option maxHeartbeats 4000000
def plT (n : Nat) (D : Nat → Nat) (k v : Nat) : List Nat := tab n fun j => if j < k then D j else if j = k then v else 0
theorem plT_length (n : Nat) (D : Nat → Nat) (k v : Nat) : (plT n D k v).length = n := tab_length _ _
theorem plT_get {n k : Nat} (D : Nat → Nat) (v : Nat) (h : k < n) : (plT n D k v)[k]? = some v := by
  rw [plT, tab_get? h, if_neg (by omega), if_pos rfl]
theorem plT_set (n : Nat) (D : Nat → Nat) (k v w : Nat) : (plT n D k v).set k w = plT n D k w := by
  rw [plT, tab_set]
  refine tab_congr fun j _ => ?_
  by_cases e : j = k
  · subst e; simp
  · rw [if_neg e, if_neg e, if_neg e]
theorem plT_next {n k : Nat} (D : Nat → Nat) : plT n D k (D k) = plT n D (k + 1) 0 := by
  refine tab_congr fun j _ => ?_
  by_cases e : j = k
  · subst e; rw [if_neg (by omega), if_pos rfl, if_pos (by omega)]
  · by_cases c : j < k
    · rw [if_pos c, if_pos (by omega)]
    · rw [if_neg c, if_neg e, if_neg (by omega)]; split <;> rfl
theorem P110 (N M : Nat) (hl : (canL N).length < 400) (hl2 : (canL M).length < 400) : Ans X 110 [.sl (nats (canL N)), .sl (nats (canL M))] (.ret (.sl (nats (canL (N + M))))) := by
  refine call_of_X (fn := Tryd.f110) 2 Tryd.func110 rfl (by decide +kernel) rfl ?_ ?_ ?_ ?_
  · rfl
  · intro h; exact absurd h (by rw [sr110]; decide)
  · intro v hv; injection hv with hv; subst hv; rfl
  intro s hs hd ho
  have hm : s.m = ⟨.nil, []⟩ := by subst hs; rfl
  have h0 : s.t.get 0 = .sl (nats (canL N)) := by subst hs; rfl
  have h1 : s.t.get 1 = .sl (nats (canL M)) := by subst hs; rfl
  clear hs
  have hgN : ∀ i, i < (canL N).length → (canL N)[i]? = some (dig N i) := fun i hi => by
    conv => lhs; rw [canL_tab]
    exact tab_get? hi
  have hgM : ∀ i, i < (canL M).length → (canL M)[i]? = some (dig M i) := fun i hi => by
    conv => lhs; rw [canL_tab]
    exact tab_get? hi
  have hN : N < 60 ^ (canL N).length := canL_length_le.1 (Nat.le_refl _)
  have hM : M < 60 ^ (canL M).length := canL_length_le.1 (Nat.le_refl _)
  have zN : ∀ i, (canL N).length ≤ i → dig N i = 0 := fun i hi => top_zero hi
  have zM : ∀ i, (canL M).length ≤ i → dig M i = 0 := fun i hi => top_zero hi
  generalize canL N = L at *
  generalize canL M = L' at *
  generalize ha : L.length = a at *
  generalize hb : L'.length = b at *
  obtain ⟨n, hn⟩ : ∃ n, n = (if b > a then b else a) + 1 := ⟨_, rfl⟩
  have hn1 : a < n ∧ b < n ∧ n ≤ 400 := by split at hn <;> omega
  have hmx : V.int .i64 (wr .i64 ((if (b : Int) > (a : Int) then (b : Int) else (a : Int)) + 1)) = vn n := by
    rw [wr_i64 (by split <;> omega) (by split <;> omega)]
    congr 1
    rw [hn]; split <;> split <;> omega
  have hS : N + M < 60 ^ n := by
    have e1 : (60 : Nat) ^ a ≤ 60 ^ (n - 1) := Nat.pow_le_pow_right (by decide) (by omega)
    have e2 : (60 : Nat) ^ b ≤ 60 ^ (n - 1) := Nat.pow_le_pow_right (by decide) (by omega)
    have e3 : (60 : Nat) ^ n = 60 ^ (n - 1) * 60 := by rw [← Nat.pow_succ]; congr 1; omega
    omega
  clear hn hN hM
  refine gPS (aI @nats_zero <|aI @h0 <|aI @h1 <|aI @hm <|aI @nats_length <|aI @ha <|aI @hb <|@hmx) ?_
  refine W_loopg (fun (k : Nat) s => s.dfs = [] ∧ s.m.out.length = 0 ∧ s.t.get 0 = .sl (nats L) ∧ s.t.get 1 = .sl (nats L') ∧ s.t.get 5 = .rs ⟨0, 13, 0, 1⟩ 3 0 n ∧ s.t.get 6 = vn k ∧ k ≤ n ∧
    s.m.row ⟨0, 13, 0, 1⟩ = some ⟨1, 3, true, false, nats (plT n (dig (N + M)) k ((N % 60 ^ k + M % 60 ^ k) / 60 ^ k))⟩) (fun k => n - k) 0 ?_ ?_
  · refine ⟨hd, ?_, ?_, ?_, ?_, ?_, Nat.zero_le _, ?_⟩
    all_goals (try refine f0 (aI @h0 <|aI @h1 <|@hm) ?_);all_goals try exact True.intro
    all_goals first | rfl | (simp [plT, Nat.mod_one, tab_const])
  clear hd ho hm h0 h1
  rintro k s ⟨hd, ho, h0, h1, h5, h6, hk, r13⟩
  refine gP (aI @h5 <|@h6) ?_
  refine cnd (fun h => ?_) (fun h => ?_)
  · have hk' : k < n := by have := of_decide_eq_true h; omega
    clear h
    obtain ⟨s1, s2⟩ := plus_step N M k
    have hcb : (N % 60 ^ k + M % 60 ^ k) / 60 ^ k ≤ 1 := by
      have h1 := Nat.mod_lt N (pow_pos k)
      have h2 := Nat.mod_lt M (pow_pos k)
      have h3 : (N % 60 ^ k + M % 60 ^ k) / 60 ^ k < 2 := Nat.div_lt_of_lt_mul (by omega)
      omega
    have hz : n ≤ k + 1 → (N % 60 ^ (k + 1) + M % 60 ^ (k + 1)) / 60 ^ (k + 1) = 0 := fun h => by
      obtain rfl : n = k + 1 := by omega
      have h1 := Nat.mod_le N (60 ^ (k + 1))
      have h2 := Nat.mod_le M (60 ^ (k + 1))
      exact Nat.div_eq_of_lt (by omega)
    have hdN := dig_lt N k
    have hdM := dig_lt M k
    have hzN := zN k
    have hzM := zM k
    have gN := hgN k
    have gM := hgM k
    generalize hc : (N % 60 ^ k + M % 60 ^ k) / 60 ^ k = c at *
    generalize hc' : (N % 60 ^ (k + 1) + M % 60 ^ (k + 1)) / 60 ^ (k + 1) = c' at *
    generalize dig N k = x at *
    generalize dig M k = y at *
    have hkn : (k : Int) < (n : Int) := by omega
    have hk0 : (0 : Int) ≤ (k : Int) := by omega
    have e1 : V.int .i64 (wr .i64 ((k : Int) + 1)) = vn (k + 1) := by rw [wr_i64 (by omega) (by omega)]; rfl
    refine gPS (aI @h0 <|aI @h6 <|aI @nats_length <|@ha) ?_
    refine W_mid (fun s' => s'.dfs = [] ∧ s'.m.out.length = 0 ∧ s'.t.get 0 = .sl (nats L) ∧ s'.t.get 1 = .sl (nats L') ∧ s'.t.get 5 = .rs ⟨0, 13, 0, 1⟩ 3 0 n ∧ s'.t.get 6 = vn k ∧
      s'.m.row ⟨0, 13, 0, 1⟩ = some ⟨1, 3, true, false, nats (plT n (dig (N + M)) k (c + x))⟩) ?_ ?_
    · refine cnd (fun h => ?_) (fun h => ?_)
      · have hka : k < a := by have := of_decide_eq_true h; omega
        have hka' : (k : Int) < (a : Int) := by omega
        have g := gN hka
        have gr := plT_get (n := n) (dig (N + M)) c hk'
        have w1 : V.int .i64 (wr .i64 ((c : Int) + (x : Int))) = vn (c + x) := by rw [cast_add, wr_nat (by omega)]
        clear s1 s2 hz hzN hzM gN gM hgN hgM zN zM h
        refine gPS (aI @h0 <|aI @h1 <|aI @h5 <|aI @h6 <|aI @r13 <|aI @ho <|aI @nats_length <|aI @nats_get? <|aI @nats_set <|aI @ha <|aI @g <|aI @gr <|aI @plT_set <|aI @plT_length <|aI @hka <|aI @hka' <|aI @hkn <|aI @hk' <|aI @hk0 <|@w1) ?_
        refine ⟨hd, ?_, ?_, ?_, ?_, ?_, ?_⟩
        all_goals (try refine fS (aI @h0 <|aI @h1 <|aI @h5 <|aI @h6 <|@ho) ?_);all_goals try exact True.intro
      · have hka : a ≤ k := by have := of_decide_eq_false h; omega
        rw [hzN hka, Nat.add_zero]
        refine gP @Nat.zero_add ?_
        refine ⟨hd, ?_, ?_, ?_, ?_, ?_, ?_⟩
        all_goals (try refine fS (aI @h0 <|aI @h1 <|aI @h5 <|aI @h6 <|aI @r13 <|@ho) ?_);all_goals try exact True.intro
    clear hd ho h0 h1 h5 h6 r13
    rintro s ⟨hd, ho, h0, h1, h5, h6, r13⟩
    refine gPS (aI @h1 <|aI @h6 <|aI @nats_length <|@hb) ?_
    refine W_mid (fun s' => s'.dfs = [] ∧ s'.m.out.length = 0 ∧ s'.t.get 0 = .sl (nats L) ∧ s'.t.get 1 = .sl (nats L') ∧ s'.t.get 5 = .rs ⟨0, 13, 0, 1⟩ 3 0 n ∧ s'.t.get 6 = vn k ∧
      s'.m.row ⟨0, 13, 0, 1⟩ = some ⟨1, 3, true, false, nats (plT n (dig (N + M)) k (c + x + y))⟩) ?_ ?_
    · refine cnd (fun h => ?_) (fun h => ?_)
      · have hka : k < b := by have := of_decide_eq_true h; omega
        have hka' : (k : Int) < (b : Int) := by omega
        have g := gM hka
        have gr := plT_get (n := n) (dig (N + M)) (c + x) hk'
        have w1 : V.int .i64 (wr .i64 (((c + x : Nat) : Int) + (y : Int))) = vn (c + x + y) := by rw [cast_add, wr_nat (by omega)]
        clear s1 s2 hz hzN hzM gN gM hgN hgM zN zM h
        refine gPS (aI @h0 <|aI @h1 <|aI @h5 <|aI @h6 <|aI @r13 <|aI @ho <|aI @nats_length <|aI @nats_get? <|aI @nats_set <|aI @hb <|aI @g <|aI @gr <|aI @plT_set <|aI @plT_length <|aI @hka <|aI @hka' <|aI @hkn <|aI @hk' <|aI @hk0 <|@w1) ?_
        refine ⟨hd, ?_, ?_, ?_, ?_, ?_, ?_⟩
        all_goals (try refine fS (aI @h0 <|aI @h1 <|aI @h5 <|aI @h6 <|@ho) ?_);all_goals try exact True.intro
      · have hka : b ≤ k := by have := of_decide_eq_false h; omega
        rw [hzM hka, Nat.add_zero]
        refine gP @Nat.zero_add ?_
        refine ⟨hd, ?_, ?_, ?_, ?_, ?_, ?_⟩
        all_goals (try refine fS (aI @h0 <|aI @h1 <|aI @h5 <|aI @h6 <|aI @r13 <|@ho) ?_);all_goals try exact True.intro
    clear hd ho h0 h1 h5 h6 r13
    rintro s ⟨hd, ho, h0, h1, h5, h6, r13⟩
    have gr := plT_get (n := n) (dig (N + M)) (c + x + y) hk'
    generalize hv : c + x + y = v at *
    have hv120 : v < 120 := by omega
    clear gN gM hgN hgM zN zM hzN hzM
    refine gPS (aI @h5 <|aI @h6 <|aI @r13 <|aI @ho <|aI @nats_length <|aI @nats_get? <|aI @gr <|aI @plT_length <|aI @hkn <|aI @hk' <|@hk0) ?_
    refine cnd (fun h => ?_) (fun h => ?_)
    · have hv60 : 60 ≤ v := by have := of_decide_eq_true h; omega
      have d1 : v - 60 = dig (N + M) k := by omega
      have d2 : c' = 1 := by omega
      have hk1 : k + 1 < n := by
        rcases Nat.lt_or_ge (k + 1) n with h | h
        · exact h
        · have := hz h; omega
      have hk1' : ((k + 1 : Nat) : Int) < (n : Int) := by omega
      have hk10 : (0 : Int) ≤ ((k + 1 : Nat) : Int) := by omega
      have w1 : V.int .i64 (wr .i64 ((v : Int) - 60)) = vn (dig (N + M) k) := by rw [wr_i64 (by omega) (by omega)]; congr 1; omega
      have gr2 := plT_get (n := n) (dig (N + M)) 0 hk1
      have w2 : ∀ r, (nats (plT n (dig (N + M)) (k + 1) r)).set (k + 1) (V.int .i64 1) = nats (plT n (dig (N + M)) (k + 1) 1) := fun r => by
        rw [show V.int .i64 1 = vn 1 from rfl, nats_set, plT_set]
      clear s1 s2 hz h hv
      refine gPS (aI @h5 <|aI @h6 <|aI @r13 <|aI @ho <|aI @nats_length <|aI @nats_get? <|aI @nats_set <|aI @gr <|aI @gr2 <|aI @plT_set <|aI @plT_next <|aI @plT_length <|aI @hkn <|aI @hk' <|aI @hk0 <|aI @hk1 <|aI @hk1' <|aI @hk10 <|aI @w1 <|aI @w2 <|@e1) ?_
      refine ⟨k + 1, ⟨hd, ?_, ?_, ?_, ?_, ?_, hk', ?_⟩, by omega⟩
      all_goals (try refine fS (aI @h0 <|aI @h1 <|aI @h5 <|aI @ho <|aI @hc' <|@d2) ?_);all_goals try exact True.intro
    · have hv60 : v < 60 := by have := of_decide_eq_false h; omega
      have d1 : v = dig (N + M) k := by omega
      have d2 : c' = 0 := by omega
      rw [d1, plT_next] at r13
      clear s1 s2 hz h hv
      refine gP (aI @h6 <|@e1) ?_
      refine ⟨k + 1, ⟨hd, ?_, ?_, ?_, ?_, ?_, hk', ?_⟩, by omega⟩
      all_goals (try refine fS (aI @h0 <|aI @h1 <|aI @h5 <|aI @r13 <|aI @ho <|aI @hc' <|@d2) ?_);all_goals try exact True.intro
  · have hkn : k = n := by have := of_decide_eq_false h; omega
    subst hkn
    have ht : plT k (dig (N + M)) k ((N % 60 ^ k + M % 60 ^ k) / 60 ^ k) = tab k (dig (N + M)) := tab_congr fun j hj => if_pos hj
    rw [ht] at r13
    have hcut : cut (nats (tab k (dig (N + M)))) 0 k = nats (tab k (dig (N + M))) := by
      have := cut_nats (tab k (dig (N + M)))
      rwa [tab_length] at this
    have q := P135 (tab k (dig (N + M))) (by rw [tab_length]; omega)
    rw [trim_tab hS] at q
    clear h
    refine gPS (aI @h5 <|aI @r13 <|aI @ho <|aI @hcut <|aI @nats_length <|aI @tab_length <|aI @co135 <|aI @sr135 <|@q.iffx) ?_
    refine rPS hd (aI @Tryd.results110 <|@ho) ?_
    try exact True.intro
end Go.Proofs.YtpocekfifokndaaDoor
namespace Go.Proofs.YtpocekfifokndaaDoor
open Go Go.Ev Go.Pl
set_option maxRecDepth 100000
theorem typ54 {B n : Nat} {u : V} (h : Typ X.P B (n + 3) 54 u) : ∃ p : List Int × Int, u = plcV p := by
  rw [Typ] at h
  simp only [X_P, Tryd.underlying54] at h
  obtain ⟨us, rfl, hl, hu⟩ := h
  match us, hl with
  | [x, y], _ =>
    obtain ⟨a, rfl, _⟩ := typ22 (hu 0 _ x rfl rfl)
    obtain ⟨b, rfl, _⟩ := typ3 (hu 1 _ y rfl rfl)
    exact ⟨(a, b), rfl⟩
theorem typ_plcs {B n : Nat} : ∀ {es : List V}, (∀ u ∈ es, Typ X.P B (n + 3) 54 u) → ∃ l : List (List Int × Int), es = plcsV l
  | [], _ => ⟨[], rfl⟩
  | u :: es, h => by
    obtain ⟨p, rfl⟩ := typ54 (h u (by simp))
    obtain ⟨l, rfl⟩ := typ_plcs (es := es) (fun u hu => h u (List.mem_cons_of_mem _ hu))
    exact ⟨p :: l, rfl⟩
theorem typ64 {B n : Nat} {u : V} (h : Typ X.P B (n + 4) 64 u) : ∃ l : List (List Int × Int), u = .sl (plcsV l) := by
  rw [Typ] at h
  simp only [X_P, Tryd.underlying64] at h
  obtain ⟨es, rfl, hl, hes⟩ := h
  obtain ⟨l, rfl⟩ := typ_plcs hes
  exact ⟨l, rfl⟩
end Go.Proofs.YtpocekfifokndaaDoor
