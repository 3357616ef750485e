/- Part 8 of the proof: an evaluator of the program, proved sound against the model, and what the functions of the program compute. No condition but those each theorem states. -/
import Derived.Test.YtpocekfifokndaaDoorG2
import Derived.Test.YtpocekfifokndaaDoorG1
set_option linter.unusedSimpArgs false
set_option linter.unusedVariables false
namespace Go.Proofs.YtpocekfifokndaaDoor
open Go Go.Ev Go.Pl
set_option maxRecDepth 100000
set_option maxHeartbeats 4000000
def cmpN (N M : Nat) : Int := if N < M then -1 else if M < N then 1 else 0
theorem canL_len_lt {N M : Nat} (h : (canL N).length < (canL M).length) : N < M := by
  rcases Nat.lt_or_ge N M with h' | h'
  · exact h'
  · have h1 : N < 60 ^ (canL N).length := canL_length_le.1 (Nat.le_refl _)
    have := canL_length_le.2 (Nat.lt_of_le_of_lt h' h1)
    omega
theorem div_lt_lt {N M k : Nat} (h : N / 60 ^ k < M / 60 ^ k) : N < M := by
  rcases Nat.lt_or_ge N M with h' | h'
  · exact h'
  · have := Nat.div_le_div_right (c := 60 ^ k) h'
    omega
theorem P97 (N M : Nat) (hl : (canL N).length < 1000) (hl2 : (canL M).length < 1000) : Ans X 97 [.sl (nats (canL N)), .sl (nats (canL M))] (.ret (vi (cmpN N M))) := by
  refine call_of_X (fn := Tryd.f97) 2 Tryd.func97 rfl (by decide +kernel) rfl ?_ ?_ ?_ ?_
  · rfl
  · exact fun _ => rfl
  · intro v hv; injection hv with hv; subst hv; rfl
  intro s hs hd ho
  have hm : s.m = ⟨.nil, []⟩ := by subst hs; rfl
  have h0 : s.t.get 0 = .sl (nats (canL N)) := by subst hs; rfl
  have h1 : s.t.get 1 = .sl (nats (canL M)) := by subst hs; rfl
  clear hs
  refine gP (aI @h0 <|aI @h1 <|aI @hm <|@nats_length) ?_
  refine cnd (fun h => ?_) (fun h => ?_)
  · have h : (canL N).length ≠ (canL M).length := fun e => by rw [e] at h; simp at h
    refine gP (aI @h0 <|aI @h1 <|aI @hm <|@nats_length) ?_
    refine cnd (fun h => ?_) (fun h => ?_)
    · have h' := of_decide_eq_true h
      have hlt : N < M := canL_len_lt (by omega)
      refine gP @Nat.zero_add ?_
      refine rP hd @Tryd.results97 ?_
      try exact True.intro
      rw [cmpN, if_pos hlt]
    · have h' := of_decide_eq_false h
      have hlt : M < N := canL_len_lt (by omega)
      refine gP @Nat.zero_add ?_
      refine rP hd @Tryd.results97 ?_
      try exact True.intro
      rw [cmpN, if_neg (by omega), if_pos hlt]
  have hlen : (canL M).length = (canL N).length := by
    have h' : ((canL N).length : Int) = (canL M).length := by simpa using h
    omega
  clear h
  have hget : ∀ i, i < (canL N).length → (canL N)[i]? = some (dig N i) ∧ (canL M)[i]? = some (dig M i) := fun i hi => by
    constructor
    · conv => lhs; rw [canL_tab]
      exact tab_get? hi
    · conv => lhs; rw [canL_tab]
      exact tab_get? (by omega)
  have hN : N < 60 ^ (canL N).length := canL_length_le.1 (Nat.le_refl _)
  have hM : M < 60 ^ (canL N).length := by rw [← hlen]; exact canL_length_le.1 (Nat.le_refl _)
  generalize canL N = L at *
  generalize canL M = L' at *
  generalize hn : L.length = n at *
  have e0 : V.int .i64 (wr .i64 ((n : Int) - 1)) = vi ((n : Int) - 1) := by rw [wr_i64 (by omega) (by omega)]
  refine gP (aI @h0 <|aI @h1 <|aI @hm <|aI @nats_length <|aI @hn <|@e0) ?_
  refine W_loopg (fun (k : Nat) s => s.dfs = [] ∧ s.m.out.length = 0 ∧ s.t.get 0 = .sl (nats L) ∧ s.t.get 1 = .sl (nats L') ∧ s.t.get 5 = vi ((k : Int) - 1) ∧ k ≤ n ∧ N / 60 ^ k = M / 60 ^ k) (fun k => k) n ?_ ?_
  · refine ⟨hd, ?_, ?_, ?_, ?_, Nat.le_refl _, by rw [Nat.div_eq_of_lt hN, Nat.div_eq_of_lt hM]⟩
    all_goals (try refine f0 (aI @h0 <|aI @h1 <|@hm) ?_);all_goals try exact True.intro
    all_goals rfl
  clear hd h0 h1 ho hm
  rintro k s ⟨hd, ho, h0, h1, h5, hk, hq⟩
  refine gP @h5 ?_
  refine cnd (fun h => ?_) (fun h => ?_)
  · have hk0 : 0 < k := by have := of_decide_eq_true h; omega
    obtain ⟨i, rfl⟩ : ∃ i, k = i + 1 := ⟨k - 1, by omega⟩
    clear h
    have h5' : s.t.get 5 = vn i := by rw [h5]; congr 1; omega
    clear h5
    obtain ⟨g1, g2⟩ := hget i (by omega)
    have hin : (i : Int) < (n : Int) := by omega
    have hi0 : (0 : Int) ≤ (i : Int) := by omega
    have d1 := div_succ N i
    have d2 := div_succ M i
    have e4 : V.int .i64 (wr .i64 ((i : Int) - 1)) = vi ((i : Int) - 1) := by rw [wr_i64 (by omega) (by omega)]
    generalize dig N i = x at *
    generalize dig M i = y at *
    refine gPS (aI @nats_get? <|aI @nats_length <|aI @h0 <|aI @h1 <|aI @h5' <|aI @ho <|aI @g1 <|aI @g2 <|aI @hn <|aI @hlen <|aI @hin <|@hi0) ?_
    refine cnd (fun h => ?_) (fun h => ?_)
    · have h' := of_decide_eq_true h
      have hlt : N < M := div_lt_lt (k := i) (by omega)
      refine gP @Nat.zero_add ?_
      refine rP hd @Tryd.results97 ?_
      try exact True.intro
      rw [cmpN, if_pos hlt]
    have hxy := of_decide_eq_false h
    refine gPS (aI @nats_get? <|aI @nats_length <|aI @h0 <|aI @h1 <|aI @h5' <|aI @ho <|aI @g1 <|aI @g2 <|aI @hn <|aI @hlen <|aI @hin <|@hi0) ?_
    refine cnd (fun h => ?_) (fun h => ?_)
    · have h' := of_decide_eq_true h
      have hlt : M < N := div_lt_lt (k := i) (by omega)
      refine gP @Nat.zero_add ?_
      refine rP hd @Tryd.results97 ?_
      try exact True.intro
      rw [cmpN, if_neg (by omega), if_pos hlt]
    have hyx := of_decide_eq_false h
    refine gP (aI @h5' <|@e4) ?_
    refine ⟨i, ⟨hd, ?_, ?_, ?_, ?_, by omega, by omega⟩, by omega⟩
    all_goals (try refine f0 (aI @h0 <|aI @h1 <|@ho) ?_);all_goals try exact True.intro
  · have hk0 : k = 0 := by have := of_decide_eq_false h; omega
    subst hk0
    rw [Nat.pow_zero, Nat.div_one, Nat.div_one] at hq
    refine gP @Nat.zero_add ?_
    refine rP hd @Tryd.results97 ?_
    try exact True.intro
    rw [cmpN, if_neg (by omega), if_neg (by omega)]
end Go.Proofs.YtpocekfifokndaaDoor
