/- Part 8 of the proof: an evaluator of the program, proved sound against the model, and what the functions of the program compute. No condition but those each theorem states. -/
import Derived.Test.YtpocekfifokndaaDoorG2
import Derived.Test.YtpocekfifokndaaDoorG3
import Derived.Test.YtpocekfifokndaaDoorG1
import Derived.Test.YtpocekfifokndaaDoorG6
import Derived.Test.YtpocekfifokndaaDoorG7
set_option linter.unusedSimpArgs false
set_option linter.unusedVariables false
namespace Go.Proofs.YtpocekfifokndaaDoor
open Go Go.Ev Go.Pl
set_option maxRecDepth 100000
set_option maxHeartbeats 4000000
theorem num_tab (M : Nat) : ∀ n, numL (tab n (dig M)) = M % 60 ^ n
  | 0 => by simp [tab, numL, Nat.mod_one]
  | n + 1 => by
    rw [tab_succ, num_append, num_tab M n, tab_length, mod_succ]
    simp only [numL, Nat.mul_zero, Nat.add_zero]
    rw [Nat.mul_comm]
theorem trim_tab {M n : Nat} (h : M < 60 ^ n) : trimL (tab n (dig M)) = canL M := by
  rw [trimL_can, num_tab, Nat.mod_eq_of_lt h]
  intro d hd
  obtain ⟨i, _, rfl⟩ := List.mem_map.1 hd
  exact dig_lt _ _
theorem P102 (C d : Nat) (hl : (canL C).length < 1000) (hd0 : 0 < d) (hd1 : d < 10000000000000) : Ans X 102 [.sl (nats (canL C)), vn d] (.ret (.tup [.sl (nats (canL (C / d))), vn (C % d)])) := by
  refine call_of_X (fn := Tryd.f102) 2 Tryd.func102 rfl (by decide +kernel) rfl ?_ ?_ ?_ ?_
  · rfl
  · intro h; exact absurd h (by rw [sr102]; decide)
  · intro v hv; injection hv with hv; subst hv; rfl
  intro s hs hd ho
  have hm : s.m = ⟨.nil, []⟩ := by subst hs; rfl
  have h0 : s.t.get 0 = .sl (nats (canL C)) := by subst hs; rfl
  have h1 : s.t.get 1 = vn d := by subst hs; rfl
  clear hs
  have hC : C < 60 ^ (canL C).length := canL_length_le.1 (Nat.le_refl _)
  have hget : ∀ i, i < (canL C).length → (canL C)[i]? = some (dig C i) := fun i hi => by
    conv => lhs; rw [canL_tab]
    exact tab_get? hi
  generalize hL : canL C = L at *
  generalize hn : L.length = n at *
  have e0 : V.int .i64 (wr .i64 ((n : Int) - 1)) = vi ((n : Int) - 1) := by rw [wr_i64 (by omega) (by omega)]
  refine gPS (aI @nats_zero <|aI @h0 <|aI @h1 <|aI @hm <|aI @nats_length <|aI @hn <|@e0) ?_
  refine W_loopg (fun (k : Nat) s => s.dfs = [] ∧ s.m.out.length = 0 ∧ s.t.get 0 = .sl (nats L) ∧ s.t.get 1 = vn d ∧ s.t.get 6 = .rs ⟨0, 11, 0, 1⟩ 3 0 n ∧ s.t.get 7 = vn (C / 60 ^ k % d) ∧ s.t.get 8 = vi ((k : Int) - 1) ∧ k ≤ n ∧
    s.m.row ⟨0, 11, 0, 1⟩ = some ⟨1, 3, true, false, nats (tab n fun j => if k ≤ j then dig (C / d) j else 0)⟩) (fun k => k) n ?_ ?_
  · have hz : C / 60 ^ n % d = 0 := by rw [Nat.div_eq_of_lt hC]; simp
    have ht : (tab n fun j => if n ≤ j then dig (C / d) j else 0) = List.replicate n 0 := by
      rw [tab_const]; exact tab_congr fun j hj => if_neg (by omega)
    rw [hz, ht]
    refine ⟨hd, ?_, ?_, ?_, ?_, ?_, ?_, Nat.le_refl _, ?_⟩
    all_goals (try refine f0 (aI @h0 <|aI @h1 <|@hm) ?_);all_goals try exact True.intro
    all_goals rfl
  clear hd h0 h1 ho hm
  rintro k s ⟨hd, ho, h0, h1, h6, h7, h8, hk, r11⟩
  refine gP @h8 ?_
  refine cnd (fun h => ?_) (fun h => ?_)
  · have hk0 : 0 < k := by have := of_decide_eq_true h; omega
    obtain ⟨i, rfl⟩ : ∃ i, k = i + 1 := ⟨k - 1, by omega⟩
    clear h
    have h8' : s.t.get 8 = vn i := by rw [h8]; congr 1; omega
    clear h8
    obtain ⟨s1, s2⟩ := over_step C d i hd0
    have hr : C / 60 ^ (i + 1) % d < d := Nat.mod_lt _ hd0
    have hdg := dig_lt C i
    have hg := hget i (by omega)
    have hin : (i : Int) < (n : Int) := by omega
    have hin' : i < n := by omega
    have hi0 : (0 : Int) ≤ (i : Int) := by omega
    have hdn : ¬ ((d : Int) = 0) := by omega
    have hset : (tab n fun j => if i + 1 ≤ j then dig (C / d) j else 0).set i (dig (C / d) i) = tab n fun j => if i ≤ j then dig (C / d) j else 0 := by
      rw [tab_set]
      refine tab_congr fun j hj => ?_
      by_cases e : j = i
      · subst e; simp
      · rw [if_neg e]
        by_cases c : i + 1 ≤ j
        · rw [if_pos c, if_pos (by omega)]
        · rw [if_neg c, if_neg (by omega)]
    have hgo : ∃ v, (tab n fun j => if i + 1 ≤ j then dig (C / d) j else 0)[i]? = some v := ⟨_, tab_get? hin'⟩
    obtain ⟨v, hv⟩ := hgo
    generalize C / 60 ^ (i + 1) % d = r at *
    generalize dig C i = x at *
    have e1 : V.int .i64 (wr .i64 (wr .i64 ((r : Int) * 60) + x)) = vn (r * 60 + x) := by rw [cast_mul60, wr_nat (by omega), cast_add, wr_nat (by omega)]
    have e2 : V.int .i64 (wr .i64 (Int.tdiv ((r * 60 + x : Nat) : Int) (d : Int))) = vn (dig (C / d) i) := by
      rw [cast_tdiv, s1, wr_nat (Nat.lt_trans (dig_lt _ _) (by decide))]
    have e3 : V.int .i64 (Int.tmod ((r * 60 + x : Nat) : Int) (d : Int)) = vn (C / 60 ^ i % d) := by rw [cast_tmod, s2]
    have e4 : V.int .i64 (wr .i64 ((i : Int) - 1)) = vi ((i : Int) - 1) := by rw [wr_i64 (by omega) (by omega)]
    refine gPS (aI @nats_get? <|aI @nats_set <|aI @h0 <|aI @h1 <|aI @h6 <|aI @h7 <|aI @h8' <|aI @r11 <|aI @ho <|aI @hg <|aI @hn <|aI @hin <|aI @hin' <|aI @hi0 <|aI @hdn <|aI @hv <|aI @nats_length <|aI @tab_length <|aI @e1 <|aI @e2 <|aI @e3 <|@e4) ?_
    refine ⟨i, ⟨hd, ?_, ?_, ?_, ?_, ?_, ?_, by omega, ?_⟩, by omega⟩
    all_goals (try refine f0 (aI @h0 <|aI @h1 <|aI @h6 <|aI @ho <|@hset) ?_);all_goals try exact True.intro
  · have hk0 : k = 0 := by have := of_decide_eq_false h; omega
    subst hk0
    clear h
    have ht : (tab n fun j => if 0 ≤ j then dig (C / d) j else 0) = tab n (dig (C / d)) := tab_congr fun j hj => if_pos (Nat.zero_le _)
    rw [ht] at r11
    rw [Nat.pow_zero, Nat.div_one] at h7
    have hcut : cut (nats (tab n (dig (C / d)))) 0 n = nats (tab n (dig (C / d))) := by
      have := cut_nats (tab n (dig (C / d)))
      rwa [tab_length] at this
    have hlt : C / d < 60 ^ n := Nat.lt_of_le_of_lt (Nat.div_le_self _ _) hC
    have q := P135 (tab n (dig (C / d))) (by rw [tab_length]; omega)
    rw [trim_tab hlt] at q
    refine gPS (aI @h6 <|aI @h7 <|aI @r11 <|aI @ho <|aI @hcut <|aI @nats_length <|aI @tab_length <|aI @co135 <|aI @sr135 <|@q.iffx) ?_
    refine rPS hd (aI @Tryd.results102 <|@ho) ?_
    try exact True.intro
end Go.Proofs.YtpocekfifokndaaDoor
namespace Go.Proofs.YtpocekfifokndaaDoor
open Go Go.Ev Go.Pl
set_option maxRecDepth 100000
set_option maxHeartbeats 4000000
theorem P96 (N p : Nat) (hN : 0 < N) (hb : N < 60 ^ 90) (hp : 1 < p) (hp2 : p < 100) : Ans X 96 [.sl (nats (canL N)), vn p] (.ret (.tup [vn (mult p N), .sl (nats (canL (rem p N)))])) := by
  refine call_of_X (fn := Tryd.f96) 2 Tryd.func96 rfl (by decide +kernel) rfl ?_ ?_ ?_ ?_
  · rfl
  · intro h; exact absurd h (by rw [sr96]; decide)
  · intro v hv; injection hv with hv; subst hv; rfl
  intro s hs hd ho
  have hm : s.m = ⟨.nil, []⟩ := by subst hs; rfl
  have h0 : s.t.get 0 = .sl (nats (canL N)) := by subst hs; rfl
  have h1 : s.t.get 1 = vn p := by subst hs; rfl
  clear hs
  refine gP (aI @h0 <|aI @h1 <|@hm) ?_
  refine W_loopg (fun (x : Nat × Nat) s => s.dfs = [] ∧ s.m.out.length = 0 ∧ s.t.get 0 = .sl (nats (canL x.2)) ∧ s.t.get 1 = vn p ∧ s.t.get 6 = vn x.1 ∧ mult p N = x.1 + mult p x.2 ∧ rem p N = rem p x.2 ∧ 0 < x.2 ∧ x.2 < 60 ^ 90 ∧ x.2 * p ^ x.1 = N) (fun x => x.2) (0, N) ?_ ?_
  · refine ⟨hd, ?_, ?_, ?_, ?_, by simp, rfl, hN, hb, by simp⟩
    all_goals (try refine f0 (aI @h0 <|aI @h1 <|@hm) ?_);all_goals try exact True.intro
    all_goals rfl
  clear hd h0 h1 ho hm
  rintro ⟨c, D⟩ s ⟨hd, ho, h0, h1, h6, hmu, hre, hD0, hDb, hDN⟩
  dsimp only at h0 h6 hmu hre hD0 hDb hDN
  have hlen : (canL D).length ≤ 90 := canL_length_le.2 hDb
  have q := P102 D p (by omega) (by omega) (by omega)
  refine gP (aI @h0 <|aI @h1 <|aI @h6 <|aI @ho <|aI @co102 <|aI @sr102 <|@q.iffx) ?_
  refine cnd (fun h => ?_) (fun h => ?_)
  · have h : D % p ≠ 0 := by
      have h' : ¬ ((D % p : Nat) : Int) = 0 := by simpa using h
      omega
    rw [mult_no h, Nat.add_zero] at hmu
    rw [rem_no h] at hre
    rw [hmu, hre]
    refine gP (aI @h0 <|@h6) ?_
    refine rP hd @Tryd.results96 ?_
    try exact True.intro
  · have h : D % p = 0 := by
      have h' : ((D % p : Nat) : Int) = 0 := by simpa using h
      omega
    have hDp0 : 0 < D / p := Nat.div_pos (Nat.le_of_dvd hD0 (Nat.dvd_of_mod_eq_zero h)) (by omega)
    have hDpb : D / p < 60 ^ 90 := Nat.lt_of_le_of_lt (Nat.div_le_self _ _) hDb
    have hCe : D / p * p ^ (c + 1) = N := by
      rw [Nat.pow_succ, Nat.mul_comm (p ^ c), ← Nat.mul_assoc, Nat.div_mul_cancel (Nat.dvd_of_mod_eq_zero h)]; exact hDN
    have hc : c + 1 < 540 := by
      have g2 : p ^ (c + 1) ≤ N := by rw [← hCe]; exact Nat.le_mul_of_pos_left _ hDp0
      have g3 := mult_bound 90 hp g2 hb
      omega
    have hmu' := mult_yes hp hD0 h
    have hre' := rem_yes hp hD0 h
    have e1 : V.int .i64 (wr .i64 ((c : Int) + 1)) = vn (c + 1) := by rw [wr_i64 (by omega) (by omega)]; rfl
    have hlt := Nat.div_lt_self hD0 hp
    clear hDN hDb hlen
    refine gP (aI @h6 <|@e1) ?_
    refine ⟨(c + 1, D / p), ⟨hd, ?_, ?_, ?_, ?_, by dsimp only; omega, by dsimp only; rw [hre, hre'], hDp0, hDpb, hCe⟩, hlt⟩
    all_goals (try refine f0 (aI @h1 <|@ho) ?_);all_goals try exact True.intro
end Go.Proofs.YtpocekfifokndaaDoor
namespace Go.Proofs.YtpocekfifokndaaDoor
open Go Go.Ev Go.Pl
set_option maxRecDepth 100000
set_option maxHeartbeats 4000000
def cmpN (N M : Nat) : Int := if N < M then -1 else if M < N then 1 else 0
theorem canL_len_lt {N M : Nat} (h : (canL N).length < (canL M).length) : N < M := by
  rcases Nat.lt_or_ge N M with h' | h'
  · exact h'
  · have h1 : N < 60 ^ (canL N).length := canL_length_le.1 (Nat.le_refl _)
    have := canL_length_le.2 (Nat.lt_of_le_of_lt h' h1)
    omega
theorem div_lt_lt {N M k : Nat} (h : N / 60 ^ k < M / 60 ^ k) : N < M := by
  rcases Nat.lt_or_ge N M with h' | h'
  · exact h'
  · have := Nat.div_le_div_right (c := 60 ^ k) h'
    omega
theorem P97 (N M : Nat) (hl : (canL N).length < 1000) (hl2 : (canL M).length < 1000) : Ans X 97 [.sl (nats (canL N)), .sl (nats (canL M))] (.ret (vi (cmpN N M))) := by
  refine call_of_X (fn := Tryd.f97) 2 Tryd.func97 rfl (by decide +kernel) rfl ?_ ?_ ?_ ?_
  · rfl
  · exact fun _ => rfl
  · intro v hv; injection hv with hv; subst hv; rfl
  intro s hs hd ho
  have hm : s.m = ⟨.nil, []⟩ := by subst hs; rfl
  have h0 : s.t.get 0 = .sl (nats (canL N)) := by subst hs; rfl
  have h1 : s.t.get 1 = .sl (nats (canL M)) := by subst hs; rfl
  clear hs
  refine gP (aI @h0 <|aI @h1 <|aI @hm <|@nats_length) ?_
  refine cnd (fun h => ?_) (fun h => ?_)
  · have h : (canL N).length ≠ (canL M).length := fun e => by rw [e] at h; simp at h
    refine gP (aI @h0 <|aI @h1 <|aI @hm <|@nats_length) ?_
    refine cnd (fun h => ?_) (fun h => ?_)
    · have h' := of_decide_eq_true h
      have hlt : N < M := canL_len_lt (by omega)
      refine gP @Nat.zero_add ?_
      refine rP hd @Tryd.results97 ?_
      try exact True.intro
      rw [cmpN, if_pos hlt]
    · have h' := of_decide_eq_false h
      have hlt : M < N := canL_len_lt (by omega)
      refine gP @Nat.zero_add ?_
      refine rP hd @Tryd.results97 ?_
      try exact True.intro
      rw [cmpN, if_neg (by omega), if_pos hlt]
  have hlen : (canL M).length = (canL N).length := by
    have h' : ((canL N).length : Int) = (canL M).length := by simpa using h
    omega
  clear h
  have hget : ∀ i, i < (canL N).length → (canL N)[i]? = some (dig N i) ∧ (canL M)[i]? = some (dig M i) := fun i hi => by
    constructor
    · conv => lhs; rw [canL_tab]
      exact tab_get? hi
    · conv => lhs; rw [canL_tab]
      exact tab_get? (by omega)
  have hN : N < 60 ^ (canL N).length := canL_length_le.1 (Nat.le_refl _)
  have hM : M < 60 ^ (canL N).length := by rw [← hlen]; exact canL_length_le.1 (Nat.le_refl _)
  generalize canL N = L at *
  generalize canL M = L' at *
  generalize hn : L.length = n at *
  have e0 : V.int .i64 (wr .i64 ((n : Int) - 1)) = vi ((n : Int) - 1) := by rw [wr_i64 (by omega) (by omega)]
  refine gP (aI @h0 <|aI @h1 <|aI @hm <|aI @nats_length <|aI @hn <|@e0) ?_
  refine W_loopg (fun (k : Nat) s => s.dfs = [] ∧ s.m.out.length = 0 ∧ s.t.get 0 = .sl (nats L) ∧ s.t.get 1 = .sl (nats L') ∧ s.t.get 5 = vi ((k : Int) - 1) ∧ k ≤ n ∧ N / 60 ^ k = M / 60 ^ k) (fun k => k) n ?_ ?_
  · refine ⟨hd, ?_, ?_, ?_, ?_, Nat.le_refl _, by rw [Nat.div_eq_of_lt hN, Nat.div_eq_of_lt hM]⟩
    all_goals (try refine f0 (aI @h0 <|aI @h1 <|@hm) ?_);all_goals try exact True.intro
    all_goals rfl
  clear hd h0 h1 ho hm
  rintro k s ⟨hd, ho, h0, h1, h5, hk, hq⟩
  refine gP @h5 ?_
  refine cnd (fun h => ?_) (fun h => ?_)
  · have hk0 : 0 < k := by have := of_decide_eq_true h; omega
    obtain ⟨i, rfl⟩ : ∃ i, k = i + 1 := ⟨k - 1, by omega⟩
    clear h
    have h5' : s.t.get 5 = vn i := by rw [h5]; congr 1; omega
    clear h5
    obtain ⟨g1, g2⟩ := hget i (by omega)
    have hin : (i : Int) < (n : Int) := by omega
    have hi0 : (0 : Int) ≤ (i : Int) := by omega
    have d1 := div_succ N i
    have d2 := div_succ M i
    have e4 : V.int .i64 (wr .i64 ((i : Int) - 1)) = vi ((i : Int) - 1) := by rw [wr_i64 (by omega) (by omega)]
    generalize dig N i = x at *
    generalize dig M i = y at *
    refine gPS (aI @nats_get? <|aI @nats_length <|aI @h0 <|aI @h1 <|aI @h5' <|aI @ho <|aI @g1 <|aI @g2 <|aI @hn <|aI @hlen <|aI @hin <|@hi0) ?_
    refine cnd (fun h => ?_) (fun h => ?_)
    · have h' := of_decide_eq_true h
      have hlt : N < M := div_lt_lt (k := i) (by omega)
      refine gP @Nat.zero_add ?_
      refine rP hd @Tryd.results97 ?_
      try exact True.intro
      rw [cmpN, if_pos hlt]
    have hxy := of_decide_eq_false h
    refine gPS (aI @nats_get? <|aI @nats_length <|aI @h0 <|aI @h1 <|aI @h5' <|aI @ho <|aI @g1 <|aI @g2 <|aI @hn <|aI @hlen <|aI @hin <|@hi0) ?_
    refine cnd (fun h => ?_) (fun h => ?_)
    · have h' := of_decide_eq_true h
      have hlt : M < N := div_lt_lt (k := i) (by omega)
      refine gP @Nat.zero_add ?_
      refine rP hd @Tryd.results97 ?_
      try exact True.intro
      rw [cmpN, if_neg (by omega), if_pos hlt]
    have hyx := of_decide_eq_false h
    refine gP (aI @h5' <|@e4) ?_
    refine ⟨i, ⟨hd, ?_, ?_, ?_, ?_, by omega, by omega⟩, by omega⟩
    all_goals (try refine f0 (aI @h0 <|aI @h1 <|@ho) ?_);all_goals try exact True.intro
  · have hk0 : k = 0 := by have := of_decide_eq_false h; omega
    subst hk0
    rw [Nat.pow_zero, Nat.div_one, Nat.div_one] at hq
    refine gP @Nat.zero_add ?_
    refine rP hd @Tryd.results97 ?_
    try exact True.intro
    rw [cmpN, if_neg (by omega), if_neg (by omega)]
end Go.Proofs.YtpocekfifokndaaDoor
namespace Go.Proofs.YtpocekfifokndaaDoor
open Go Go.Ev Go.Pl
set_option maxRecDepth 100000
set_option maxHeartbeats 4000000
theorem num_zero (n : Nat) : numL (List.replicate n 0) = 0 := by
  induction n with
  | zero => rfl
  | succ n ih => rw [List.replicate_succ, numL, ih]
theorem num_take_succ {l : List Nat} {k d : Nat} (h : l[k]? = some d) : numL (l.take (k + 1)) = numL (l.take k) + d * 60 ^ k := by
  have hk : k < l.length := by
    rcases Nat.lt_or_ge k l.length with h' | h'
    · exact h'
    · rw [List.getElem?_eq_none h'] at h; simp at h
  rw [List.take_add_one, h, num_append, List.length_take, Nat.min_eq_left (by omega)]
  simp [numL, Nat.mul_comm]
theorem last_zero {o : List Nat} {n v : Nat} (hn : o.length = n + 1) (hv : o[n]? = some v) (h : numL o < 60 ^ n) : v = 0 := by
  have e := num_take_succ hv
  rw [List.take_of_length_le (by omega)] at e
  rcases Nat.eq_zero_or_pos v with h0 | h0
  · exact h0
  · have : 60 ^ n ≤ v * 60 ^ n := Nat.le_mul_of_pos_left _ h0
    omega
theorem mem_set_le {o : List Nat} {i v B : Nat} (h : ∀ d ∈ o, d ≤ B) (hv : v ≤ B) : ∀ d ∈ o.set i v, d ≤ B := fun d hd => by
  rcases List.mem_or_eq_of_mem_set hd with h' | h'
  · exact h d h'
  · omega
theorem P84 (x y : List Nat) (hx : ∀ d ∈ x, d < 60) (hy : ∀ d ∈ y, d < 60) (lx : x.length < 300) (ly : y.length < 300) : Ans X 84 [.sl (nats x), .sl (nats y)] (.ret (.sl (nats (canL (numL x * numL y))))) := by
  refine call_of_X (fn := Tryd.f84) 2 Tryd.func84 rfl (by decide +kernel) rfl ?_ ?_ ?_ ?_
  · rfl
  · intro h; exact absurd h (by rw [sr84]; decide)
  · intro v hv; injection hv with hv; subst hv; rfl
  intro s hs hd ho
  have hm : s.m = ⟨.nil, []⟩ := by subst hs; rfl
  have h0 : s.t.get 0 = .sl (nats x) := by subst hs; rfl
  have h1 : s.t.get 1 = .sl (nats y) := by subst hs; rfl
  clear hs
  have hc : ((x.length : Int) + y.length + 1) = ((x.length + y.length + 1 : Nat) : Int) := by omega
  refine gPSC (aI @nats_zero <|aI @h0 <|aI @h1 <|@hm) ?_
  refine W_loopg (fun (x' : Nat × List Nat) s => s.dfs = [] ∧ s.m.out.length = 0 ∧ s.t.get 0 = .sl (nats x) ∧ s.t.get 1 = .sl (nats y) ∧ s.t.get 5 = .rs ⟨0, 15, 0, 1⟩ 3 0 (x.length + y.length + 1) ∧ s.t.get 6 = vn x'.1 ∧
    s.m.row ⟨0, 15, 0, 1⟩ = some ⟨1, 3, true, false, nats x'.2⟩ ∧ x'.1 ≤ x.length ∧ x'.2.length = x.length + y.length + 1 ∧ numL x'.2 = numL (x.take x'.1) * numL y ∧ ∀ d ∈ x'.2, d ≤ 3600 * (x'.1 * y.length)) (fun x' => x.length - x'.1) (0, List.replicate (x.length + y.length + 1) 0) ?_ ?_
  · refine ⟨hd, ?_, ?_, ?_, ?_, ?_, ?_, Nat.zero_le _, by simp, by simp [num_zero, numL], fun d hd => by simp at hd; omega⟩
    all_goals (try refine f0 (aI @h0 <|aI @h1 <|@hm) ?_);all_goals try exact True.intro
    all_goals first | rfl | simp [nats, List.replicate_succ]
  clear hd h0 h1 ho hm
  rintro ⟨i, o⟩ s ⟨hd, ho, h0, h1, h5, h6, r5, hi, hol, hnum, hB⟩
  dsimp only at h6 r5 hi hol hnum hB
  refine gP (aI @nats_length <|aI @h0 <|aI @h1 <|aI @h5 <|aI @h6 <|aI @r5 <|@ho) ?_
  refine cnd (fun h => ?_) (fun h => ?_)
  · have h := of_decide_eq_true h
    have hi : i < x.length := by omega
    obtain ⟨dx, hdx⟩ : ∃ d, x[i]? = some d := ⟨x[i], by simp⟩
    have hdx60 : dx < 60 := hx dx (List.mem_of_getElem? hdx)
    refine gP (aI @nats_length <|aI @h0 <|aI @h1 <|aI @h5 <|aI @h6 <|aI @r5 <|@ho) ?_
    refine W_loopg (fun (x' : Nat × List Nat) s => s.dfs = [] ∧ s.m.out.length = 0 ∧ s.t.get 0 = .sl (nats x) ∧ s.t.get 1 = .sl (nats y) ∧ s.t.get 5 = .rs ⟨0, 15, 0, 1⟩ 3 0 (x.length + y.length + 1) ∧ s.t.get 6 = vn i ∧ s.t.get 7 = vn x'.1 ∧
      s.m.row ⟨0, 15, 0, 1⟩ = some ⟨1, 3, true, false, nats x'.2⟩ ∧ x'.1 ≤ y.length ∧ x'.2.length = x.length + y.length + 1 ∧ numL x'.2 = numL (x.take i) * numL y + dx * 60 ^ i * numL (y.take x'.1) ∧ ∀ d ∈ x'.2, d ≤ 3600 * (i * y.length + x'.1)) (fun x' => y.length - x'.1) (0, o) ?_ ?_
    · refine ⟨hd, ?_, ?_, ?_, ?_, ?_, ?_, ?_, Nat.zero_le _, hol, by simp [hnum, numL], hB⟩
      all_goals (try refine f0 (aI @h0 <|aI @h1 <|aI @h5 <|aI @h6 <|aI @r5 <|@ho) ?_);all_goals try exact True.intro
      · rfl
    clear hd h0 h1 ho h5 h6 r5 hol hnum hB
    rintro ⟨k, o⟩ s ⟨hd, ho, h0, h1, h5, h6, h7, r5, hk, hol, hnum, hB⟩
    dsimp only at h7 r5 hk hol hnum hB
    refine gP (aI @nats_length <|aI @h0 <|aI @h1 <|aI @h5 <|aI @h6 <|aI @h7 <|aI @r5 <|@ho) ?_
    have hBk : 3600 * (i * y.length + k) < 1000000000 := by
      have : i * y.length ≤ 300 * 300 := Nat.mul_le_mul (by omega) (by omega)
      omega
    refine cnd (fun h => ?_) (fun h => ?_)
    · have h := of_decide_eq_true h
      have hk : k < y.length := by omega
      obtain ⟨dy, hdy⟩ : ∃ d, y[k]? = some d := ⟨y[k], by simp⟩
      have hdy60 : dy < 60 := hy dy (List.mem_of_getElem? hdy)
      obtain ⟨v, hv⟩ : ∃ v, o[i + k]? = some v := ⟨o[i + k]'(by omega), by simp⟩
      have hvB : v ≤ 3600 * (i * y.length + k) := hB v (List.mem_of_getElem? hv)
      have hxy : dx * dy ≤ 3600 := Nat.le_trans (Nat.mul_le_mul (Nat.le_of_lt hdx60) (Nat.le_of_lt hdy60)) (by decide)
      have hik : i + k < x.length + y.length + 1 := by omega
      refine gPSC (aI @nats_get? <|aI @nats_set <|aI @h0 <|aI @h1 <|aI @h5 <|aI @h6 <|aI @h7 <|aI @r5 <|aI @ho <|aI @hdx <|aI @hdy <|aI @hv <|aI @hol <|@hik) ?_
      refine ⟨(k + 1, o.set (i + k) (v + dx * dy)), ⟨hd, ?_, ?_, ?_, ?_, ?_, ?_, ?_, by dsimp only; omega, by simpa using hol, ?_, ?_⟩, by dsimp only; omega⟩
      all_goals (try refine f0 (aI @h0 <|aI @h1 <|aI @h5 <|aI @h6 <|@ho) ?_);all_goals try exact True.intro
      · have e := num_set (v := v + dx * dy) hv
        rw [num_take_succ hdy]
        have e2 : (v + dx * dy) * 60 ^ (i + k) = v * 60 ^ (i + k) + dx * 60 ^ i * (dy * 60 ^ k) := by rw [Nat.pow_add]; grind
        rw [e2] at e
        rw [Nat.mul_add]
        omega
      · refine mem_set_le (fun d hd => Nat.le_trans (hB d hd) ?_) ?_ <;> omega
    · have h := of_decide_eq_false h
      obtain rfl : k = y.length := by omega
      refine gPC (aI @h0 <|aI @h1 <|aI @h5 <|aI @h6 <|aI @h7 <|@ho) ?_
      refine ⟨(i + 1, o), ⟨hd, ?_, ?_, ?_, ?_, ?_, ?_, by dsimp only; omega, hol, ?_, ?_⟩, by dsimp only; omega⟩
      all_goals (try refine f0 (aI @h0 <|aI @h1 <|aI @h5 <|aI @r5 <|@ho) ?_);all_goals try exact True.intro
      · rw [hnum, num_take_succ hdx, List.take_length]; grind
      · intro d hd
        have := hB d hd
        rw [Nat.add_mul, Nat.one_mul]; exact this
  · have h := of_decide_eq_false h
    obtain rfl : i = x.length := by omega
    rw [List.take_length] at hnum
    have hlt : numL x * numL y < 60 ^ (x.length + y.length) := by
      rw [Nat.pow_add]; exact Nat.mul_lt_mul'' (num_lt hx) (num_lt hy)
    have hB : ∀ d ∈ o, d ≤ 400000000 := fun d hd => by
      have := hB d hd
      have : x.length * y.length ≤ 300 * 300 := Nat.mul_le_mul (by omega) (by omega)
      omega
    refine gP (aI @h0 <|aI @h1 <|aI @h5 <|aI @h6 <|@ho) ?_
    refine W_loopg (fun (x' : Nat × List Nat) s => s.dfs = [] ∧ s.m.out.length = 0 ∧ s.t.get 5 = .rs ⟨0, 15, 0, 1⟩ 3 0 (x.length + y.length + 1) ∧ s.t.get 8 = vn x'.1 ∧
      s.m.row ⟨0, 15, 0, 1⟩ = some ⟨1, 3, true, false, nats x'.2⟩ ∧ x'.1 ≤ x.length + y.length ∧ x'.2.length = x.length + y.length + 1 ∧ numL x'.2 = numL x * numL y ∧ (∀ j d, j < x'.1 → x'.2[j]? = some d → d < 60) ∧ (∀ j d, x'.1 < j → x'.2[j]? = some d → d ≤ 400000000) ∧
      (∀ d, x'.2[x'.1]? = some d → d ≤ 800000000)) (fun x' => x.length + y.length - x'.1) (0, o) ?_ ?_
    · refine ⟨hd, ?_, ?_, ?_, ?_, Nat.zero_le _, hol, hnum, fun j d hj => by dsimp only at hj; omega, fun j d _ he => hB d (List.mem_of_getElem? he), fun d he => Nat.le_trans (hB d (List.mem_of_getElem? he)) (by decide)⟩
      all_goals (try refine f0 (aI @h5 <|aI @r5 <|@ho) ?_);all_goals try exact True.intro
      · rfl
    clear hd h0 h1 ho h5 h6 r5 hol hnum hB
    rintro ⟨k, o⟩ s ⟨hd, ho, h5, h8, r5, hk, hol, hnum, hlow, hhigh, hmid⟩
    dsimp only at h8 r5 hk hol hnum hlow hhigh hmid
    refine gPC (aI @nats_length <|aI @h5 <|aI @h8 <|aI @r5 <|@ho) ?_
    refine cnd (fun h => ?_) (fun h => ?_)
    · have h := of_decide_eq_true h
      have hk : k < x.length + y.length := by omega
      obtain ⟨v, hv⟩ : ∃ v, o[k]? = some v := ⟨o[k]'(by omega), by simp⟩
      obtain ⟨u, hu⟩ : ∃ u, o[k + 1]? = some u := ⟨o[k + 1]'(by omega), by simp⟩
      have hvB := hmid v hv
      have huB := hhigh (k + 1) u (by omega) hu
      have hk1 : k < x.length + y.length + 1 := by omega
      have hk2 : k + 1 < x.length + y.length + 1 := by omega
      have hv' : (o.set (k + 1) (u + v / 60))[k]? = some v := by rw [List.getElem?_set, if_neg (by omega), hv]
      have hol' : (o.set (k + 1) (u + v / 60)).length = x.length + y.length + 1 := by rw [List.length_set]; exact hol
      refine gPSC (aI @nats_get? <|aI @nats_set <|aI @h5 <|aI @h8 <|aI @r5 <|aI @ho <|aI @hv <|aI @hu <|aI @hv' <|aI @hol <|aI @hol' <|aI @hk1 <|@hk2) ?_
      refine ⟨(k + 1, (o.set (k + 1) (u + v / 60)).set k (v % 60)), ⟨hd, ?_, ?_, ?_, ?_, by dsimp only; omega, by simpa using hol, ?_, ?_, ?_, ?_⟩, by dsimp only; omega⟩
      all_goals (try refine f0 (aI @h5 <|@ho) ?_);all_goals try exact True.intro
      · have e1 := num_set (v := u + v / 60) hu
        have e2 := num_set (v := v % 60) hv'
        rw [← hnum]
        have e3 : (u + v / 60) * 60 ^ (k + 1) = u * 60 ^ (k + 1) + v / 60 * 60 * 60 ^ k := by rw [Nat.pow_succ]; grind
        have e4 : v * 60 ^ k = v % 60 * 60 ^ k + v / 60 * 60 * 60 ^ k := by rw [← Nat.add_mul]; congr 1; omega
        rw [e3] at e1
        rw [e4] at e2
        omega
      · intro j d hj he
        rw [List.getElem?_set, List.getElem?_set] at he
        by_cases e : k = j
        · rw [if_pos e] at he; split at he
          · injection he with he; omega
          · simp at he
        · rw [if_neg e, if_neg (by omega)] at he
          exact hlow j d (by omega) he
      · intro j d hj he
        rw [List.getElem?_set, List.getElem?_set, if_neg (by omega), if_neg (by omega)] at he
        exact hhigh j d (by omega) he
      · intro d he
        rw [List.getElem?_set, List.getElem?_set, if_neg (by omega), if_pos rfl] at he
        split at he
        · injection he with he; omega
        · simp at he
    · have h := of_decide_eq_false h
      obtain rfl : k = x.length + y.length := by omega
      obtain ⟨v, hv⟩ : ∃ v, o[x.length + y.length]? = some v := ⟨o[x.length + y.length]'(by omega), by simp⟩
      have hv0 := last_zero hol hv (by rw [hnum]; exact hlt)
      have hall : ∀ d ∈ o, d < 60 := fun d hd => by
        obtain ⟨j, hj, e⟩ := List.mem_iff_getElem.1 hd
        have e' : o[j]? = some d := by rw [List.getElem?_eq_getElem hj, e]
        by_cases hj' : j < x.length + y.length
        · exact hlow j d hj' e'
        · have : j = x.length + y.length := by omega
          subst this
          rw [hv] at e'; injection e' with e'; omega
      have hcall := P135 o (by omega)
      rw [trimL_can hall, hnum] at hcall
      have hcut : cut (nats o) 0 (x.length + y.length + 1) = nats o := by rw [← hol]; exact cut_nats o
      refine gPS (aI @h5 <|aI @r5 <|aI @ho <|aI @hol <|aI @hcut <|aI @co135 <|aI @sr135 <|@hcall.iffx) ?_
      refine rPS hd (aI @Tryd.results84 <|@ho) ?_
      try exact True.intro
end Go.Proofs.YtpocekfifokndaaDoor
namespace Go.Proofs.YtpocekfifokndaaDoor
open Go Go.Ev Go.Pl
set_option maxRecDepth 100000
set_option maxHeartbeats 4000000
theorem P85 (a : List Nat) (ha : ∀ d ∈ a, d < 60) (hl : a.length < 1000) : Ans X 85 [.sl (nats a)] (.ret (.sl (nats (canL (numL a.reverse))))) := by
  refine call_of_X (fn := Tryd.f85) 1 Tryd.func85 rfl (by decide +kernel) rfl ?_ ?_ ?_ ?_
  · rfl
  · intro h; exact absurd h (by rw [sr85]; decide)
  · intro v hv; injection hv with hv; subst hv; rfl
  intro s hs hd ho
  have hm : s.m = ⟨.nil, []⟩ := by subst hs; rfl
  have h0 : s.t.get 0 = .sl (nats a) := by subst hs; rfl
  clear hs
  refine gPS (aI @h0 <|aI @hm <|@wr_i64) ?_
  refine W_loopg (fun (k : Nat) s => s.dfs = [] ∧ s.m.out.length = 0 ∧ s.t.get 0 = .sl (nats a) ∧ s.t.get 4 = vi (a.length - 1 - k) ∧ Held s.m 3 1 (s.t.get 3) (a.reverse.take k) ∧ k ≤ a.length) (fun k => a.length - k) 0 ?_ ?_
  · refine ⟨hd, ?_, ?_, ?_, ⟨1, 0, ?_, ?_, .inr ⟨rfl, rfl⟩⟩, Nat.zero_le _⟩
    all_goals (try refine f0 (aI @h0 <|@hm) ?_);all_goals try exact True.intro
    · simp
    · simp
    · simp [nats]
  clear hd h0 ho hm
  rintro k s ⟨hd, ho, h0, h4, ⟨g, ty, h3, r3, hty⟩, hk⟩
  have hlen : (a.reverse.take k).length = k := by rw [List.length_take, List.length_reverse]; omega
  rw [hlen] at h3 hty
  refine gP (aI @h0 <|aI @h3 <|aI @h4 <|aI @r3 <|@ho) ?_
  refine cnd (fun h => ?_) (fun h => ?_)
  · have h := of_decide_eq_true h
    have hk : k < a.length := by omega
    obtain ⟨d, hdk⟩ : ∃ d, a[a.length - 1 - k]? = some d := ⟨a[a.length - 1 - k]'(by omega), by simp⟩
    have hc : ((a.length : Int) - 1 - k).toNat = a.length - 1 - k := by omega
    have hc0 : (0 : Int) ≤ (a.length : Int) - 1 - k := by omega
    have hnat : nats (a.reverse.take k) ++ [vn d] = nats (a.reverse.take (k + 1)) := by
      rw [nats_snoc, List.take_add_one, List.getElem?_reverse (by omega), hdk]; rfl
    have hcut : cut (nats (a.reverse.take k)) 0 k = nats (a.reverse.take k) := by
      conv => lhs; arg 3; rw [← hlen]
      exact cut_nats _
    refine gPS (aI @cut_one <|aI @hcut <|aI @hnat <|aI @h0 <|aI @h3 <|aI @h4 <|aI @r3 <|aI @ho <|aI @hty <|aI @hlen <|aI @nats_get? <|aI @hdk <|aI @hc <|aI @hc0 <|@wr_i64) ?_
    refine ⟨k + 1, ⟨hd, ?_, ?_, ?_, ⟨g + 1, 3, ?_, ?_, .inl rfl⟩, by omega⟩, by omega⟩
    all_goals (try refine fS (aI @h0 <|aI @h3 <|@ho) ?_);all_goals try exact True.intro
    · congr 1; omega
    · rw [List.length_take, List.length_reverse, Nat.min_eq_left (by omega)]
  · have h := of_decide_eq_false h
    obtain rfl : k = a.length := by omega
    rw [show a.length = a.reverse.length by simp, List.take_length] at r3
    have hrev : ∀ d ∈ a.reverse, d < 60 := fun d hd => ha d (List.mem_reverse.1 hd)
    have hcut : cut (nats a.reverse) 0 a.length = nats a.reverse := by
      conv => lhs; arg 3; rw [← List.length_reverse]
      exact cut_nats _
    have hcall := P135 a.reverse (by rw [List.length_reverse]; omega)
    rw [trimL_can hrev] at hcall
    refine gPS (aI @h3 <|aI @r3 <|aI @ho <|aI @List.length_reverse.{0} <|aI @hcut <|aI @co135 <|aI @sr135 <|@hcall.iffx) ?_
    refine rPS hd (aI @Tryd.results85 <|@ho) ?_
    try exact True.intro
end Go.Proofs.YtpocekfifokndaaDoor
namespace Go.Proofs.YtpocekfifokndaaDoor
open Go Go.Ev Go.Pl
set_option maxRecDepth 100000
set_option maxHeartbeats 4000000
theorem canL_mem60 (N : Nat) : ∀ d ∈ canL N, d < 60 := canL_lt N
theorem Q84 (N M : Nat) (h1 : (canL N).length < 300) (h2 : (canL M).length < 300) : Ans X 84 [.sl (nats (canL N)), .sl (nats (canL M))] (.ret (.sl (nats (canL (N * M))))) := by
  have q := P84 (canL N) (canL M) (canL_lt N) (canL_lt M) h1 h2
  rwa [num_canL, num_canL] at q
theorem pow_canL {b k : Nat} (n : Nat) (hb : b ≤ 60) (hk : k ≤ n) : b ^ k ≤ 60 ^ n := Nat.le_trans (Nat.pow_le_pow_left hb k) (Nat.pow_le_pow_right (by decide) hk)
theorem tur_len {A B C : Nat} {i j k : Nat} (hA : A ≤ 60 ^ 95) (hB : B ≤ 60 ^ 60) (hC : C ≤ 60 ^ 41) : (canL (A * B * C)).length ≤ 197 :=
  canL_length_le.2 (Nat.lt_of_le_of_lt (Nat.mul_le_mul (Nat.mul_le_mul hA hB) hC) (by decide))
theorem P98 (i j k : Nat) (hi : i ≤ 95) (hj : j ≤ 60) (hk : k ≤ 41) : Ans X 98 [vn i, vn j, vn k] (.ret (.sl (nats (digB (30 ^ i * 20 ^ j * 12 ^ k))))) := by
  refine call_of_X (fn := Tryd.f98) 3 Tryd.func98 rfl (by decide +kernel) rfl ?_ ?_ ?_ ?_
  · rfl
  · intro h; exact absurd h (by rw [sr98]; decide)
  · intro v hv; injection hv with hv; subst hv; rfl
  intro s hs hd ho
  have hm : s.m = ⟨.nil, []⟩ := by subst hs; rfl
  have h0 : s.t.get 0 = vn i := by subst hs; rfl
  have h1 : s.t.get 1 = vn j := by subst hs; rfl
  have h2 : s.t.get 2 = vn k := by subst hs; rfl
  clear hs
  have q1 : Ans X 95 [vi 1] _ := P95 1 (by decide)
  have q30 : Ans X 95 [vi 30] _ := P95 30 (by decide)
  have q20 : Ans X 95 [vi 20] _ := P95 20 (by decide)
  have q12 : Ans X 95 [vi 12] _ := P95 12 (by decide)
  have l30 : (canL 30).length < 300 := Nat.lt_of_le_of_lt (canL_length_le.2 (by decide : 30 < 60 ^ 1)) (by decide)
  have l20 : (canL 20).length < 300 := Nat.lt_of_le_of_lt (canL_length_le.2 (by decide : 20 < 60 ^ 1)) (by decide)
  have l12 : (canL 12).length < 300 := Nat.lt_of_le_of_lt (canL_length_le.2 (by decide : 12 < 60 ^ 1)) (by decide)
  have wi : ∀ n : Nat, n < 1000 → V.int .i64 (wr .i64 ((n : Int) + 1)) = vn (n + 1) := fun n h => by rw [wr_i64 (by omega) (by omega)]; rfl
  refine gP (aI @h0 <|aI @h1 <|aI @h2 <|aI @hm <|aI @co95 <|aI @sr95 <|@q1.iffx) ?_
  refine W_loopg (fun (n : Nat) s => s.dfs = [] ∧ s.m.out.length = 0 ∧ s.t.get 0 = vn i ∧ s.t.get 1 = vn j ∧ s.t.get 2 = vn k ∧ s.t.get 8 = vn n ∧ n ≤ i ∧ s.t.get 7 = .sl (nats (canL (30 ^ n)))) (fun n => i - n) 0 ?_ ?_
  · refine ⟨hd, ?_, ?_, ?_, ?_, ?_, Nat.zero_le _, ?_⟩
    all_goals (try refine f0 (aI @h0 <|aI @h1 <|aI @h2 <|@hm) ?_);all_goals try exact True.intro
    all_goals rfl
  clear hd h0 h1 h2 ho hm q1
  rintro n s ⟨hd, ho, h0, h1, h2, h8, hn, h7⟩
  refine gP (aI @h0 <|@h8) ?_
  refine cnd (fun h => ?_) (fun h => ?_)
  · have hlt := of_decide_eq_true h
    have q := Q84 (30 ^ n) 30 (Nat.lt_of_le_of_lt (canL_length_le.2 (Nat.lt_of_le_of_lt (pow_canL 95 (by decide) (by omega)) (by decide : 60 ^ 95 < 60 ^ 96))) (by decide)) l30
    rw [← Nat.pow_succ] at q
    have e := wi n (by omega)
    refine gP (aI @h7 <|aI @h8 <|aI @ho <|aI @co95 <|aI @sr95 <|aI @q30.iffx <|aI @co84 <|aI @sr84 <|aI @q.iffx <|@e) ?_
    refine ⟨n + 1, ⟨hd, ?_, ?_, ?_, ?_, ?_, by omega, ?_⟩, by omega⟩
    all_goals (try refine f0 (aI @h0 <|aI @h1 <|aI @h2 <|@ho) ?_);all_goals try exact True.intro
  have hni : n = i := by have := of_decide_eq_false h; omega
  subst hni
  have hA := pow_canL (b := 30) 95 (by decide) hi
  generalize 30 ^ n = A at *
  clear h h0 h8 l30 q30
  refine gP @Nat.zero_add ?_
  refine W_loopg (fun (n : Nat) s => s.dfs = [] ∧ s.m.out.length = 0 ∧ s.t.get 1 = vn j ∧ s.t.get 2 = vn k ∧ s.t.get 9 = vn n ∧ n ≤ j ∧ s.t.get 7 = .sl (nats (canL (A * 20 ^ n)))) (fun n => j - n) 0 ?_ ?_
  · rw [Nat.pow_zero, Nat.mul_one]
    refine ⟨hd, ?_, ?_, ?_, ?_, Nat.zero_le _, ?_⟩
    all_goals (try refine f0 (aI @h1 <|aI @h2 <|aI @h7 <|@ho) ?_);all_goals try exact True.intro
    all_goals rfl
  clear hd h1 h2 ho h7
  rintro n s ⟨hd, ho, h1, h2, h9, hn, h7⟩
  refine gP (aI @h1 <|@h9) ?_
  refine cnd (fun h => ?_) (fun h => ?_)
  · have hlt := of_decide_eq_true h
    have q := Q84 (A * 20 ^ n) 20 (Nat.lt_of_le_of_lt (canL_length_le.2 (Nat.lt_of_le_of_lt (Nat.mul_le_mul hA (pow_canL (b := 20) 60 (by decide) (by omega))) (by decide : 60 ^ 95 * 60 ^ 60 < 60 ^ 156))) (by decide)) l20
    rw [Nat.mul_assoc, ← Nat.pow_succ] at q
    have e := wi n (by omega)
    refine gP (aI @h7 <|aI @h9 <|aI @ho <|aI @co95 <|aI @sr95 <|aI @q20.iffx <|aI @co84 <|aI @sr84 <|aI @q.iffx <|@e) ?_
    refine ⟨n + 1, ⟨hd, ?_, ?_, ?_, ?_, by omega, ?_⟩, by omega⟩
    all_goals (try refine f0 (aI @h1 <|aI @h2 <|@ho) ?_);all_goals try exact True.intro
  have hni : n = j := by have := of_decide_eq_false h; omega
  subst hni
  have hB := Nat.mul_le_mul hA (pow_canL (b := 20) 60 (by decide) hj)
  generalize A * 20 ^ n = B at *
  clear h h1 h9 l20 q20
  refine gP @Nat.zero_add ?_
  refine W_loopg (fun (n : Nat) s => s.dfs = [] ∧ s.m.out.length = 0 ∧ s.t.get 2 = vn k ∧ s.t.get 10 = vn n ∧ n ≤ k ∧ s.t.get 7 = .sl (nats (canL (B * 12 ^ n)))) (fun n => k - n) 0 ?_ ?_
  · rw [Nat.pow_zero, Nat.mul_one]
    refine ⟨hd, ?_, ?_, ?_, Nat.zero_le _, ?_⟩
    all_goals (try refine f0 (aI @h2 <|aI @h7 <|@ho) ?_);all_goals try exact True.intro
    all_goals rfl
  clear hd h2 ho h7
  rintro n s ⟨hd, ho, h2, h10, hn, h7⟩
  refine gP (aI @h2 <|@h10) ?_
  refine cnd (fun h => ?_) (fun h => ?_)
  · have hlt := of_decide_eq_true h
    have q := Q84 (B * 12 ^ n) 12 (Nat.lt_of_le_of_lt (canL_length_le.2 (Nat.lt_of_le_of_lt (Nat.mul_le_mul hB (pow_canL (b := 12) 41 (by decide) (by omega))) (by decide : 60 ^ 95 * 60 ^ 60 * 60 ^ 41 < 60 ^ 197))) (by decide)) l12
    rw [Nat.mul_assoc, ← Nat.pow_succ] at q
    have e := wi n (by omega)
    refine gP (aI @h7 <|aI @h10 <|aI @ho <|aI @co95 <|aI @sr95 <|aI @q12.iffx <|aI @co84 <|aI @sr84 <|aI @q.iffx <|@e) ?_
    refine ⟨n + 1, ⟨hd, ?_, ?_, ?_, by omega, ?_⟩, by omega⟩
    all_goals (try refine f0 (aI @h2 <|@ho) ?_);all_goals try exact True.intro
  have hni : n = k := by have := of_decide_eq_false h; omega
  subst hni
  have hC := canL_length_le.2 (Nat.lt_of_le_of_lt (Nat.mul_le_mul hB (pow_canL (b := 12) 41 (by decide) hk)) (by decide : 60 ^ 95 * 60 ^ 60 * 60 ^ 41 < 60 ^ 197))
  have q := P83 (B * 12 ^ n) (by omega)
  generalize B * 12 ^ n = C at *
  clear h h2 h10 l12 q12 hB hA
  refine gP (aI @h7 <|aI @ho <|aI @co83 <|aI @sr83 <|@q.iffx) ?_
  refine rP hd @Tryd.results98 ?_
  try exact True.intro
end Go.Proofs.YtpocekfifokndaaDoor
namespace Go.Proofs.YtpocekfifokndaaDoor
open Go Go.Ev Go.Pl
set_option maxRecDepth 100000
set_option maxHeartbeats 4000000
theorem cmp_one (R : Nat) (h : 0 < R) : (cmpN R 1 = 0) ↔ R = 1 := by
  unfold cmpN
  rw [if_neg (by omega)]
  by_cases c : 1 < R
  · rw [if_pos c]; omega
  · rw [if_neg c]; omega
theorem P38 (a : List Int) : Ans X 38 [.sl (ints a)] (.ret (.tup [vn (regS a).1, vn (regS a).2.1, vn (regS a).2.2.1, vi (regS a).2.2.2])) := by
  refine call_of_X (fn := Tryd.f38) 1 Tryd.func38 rfl (by decide +kernel) rfl ?_ ?_ ?_ ?_
  · rfl
  · exact fun _ => rfl
  · intro v hv; injection hv with hv; subst hv; rfl
  intro s hs hd ho
  have hm : s.m = ⟨.nil, []⟩ := by subst hs; rfl
  have h0 : s.t.get 0 = .sl (ints a) := by subst hs; rfl
  clear hs
  refine gP (aI @h0 <|aI @hm <|aI @co74 <|aI @sr74 <|((P74 a).iffx)) ?_
  refine cnd (fun h => ?_) (fun h => ?_)
  · have h : chk a ≠ 0 := by simpa using h
    refine gP @Nat.zero_add ?_
    refine rP hd @Tryd.results38 ?_
    try exact True.intro
    rw [regS, if_pos h]; rfl
  have hc : chk a = 0 := by simpa using h
  refine gP (aI @h0 <|aI @hm <|@ints_length) ?_
  refine cnd (fun h => ?_) (fun h => ?_)
  · have h : a.length = 0 := by have h' := eq_of_beq h; omega
    refine gP @Nat.zero_add ?_
    refine rP hd @Tryd.results38 ?_
    try exact True.intro
    rw [regS, if_neg (fun e => e hc), if_pos h]; rfl
  have hl : a.length ≠ 0 := by have h' := ne_of_beq_false h; omega
  obtain ⟨b1, b2, b3, b4, _⟩ := chk_ok hc
  rw [b1] at h0
  have hN := numI_pos hc hl
  have hb := lt_pow_mono (numI_lt hc) (by decide : 16 ≤ 90)
  have hr2 := rem_spec (p := 2) (by decide) hN
  have hr3 := rem_spec (p := 3) (by decide) hr2.2.1
  have hr5 := rem_spec (p := 5) (by decide) hr3.2.1
  have hb2 := Nat.lt_of_le_of_lt (rem_le 2 (numI a)) hb
  have hb3 := Nat.lt_of_le_of_lt (rem_le 3 _) hb2
  have hb5 := Nat.lt_of_le_of_lt (rem_le 5 _) hb3
  have q1 := P85 (natsOf a) b2 (by omega)
  have q1 : Ans X 85 [.sl (nats (natsOf a))] (.ret (.sl (nats (canL (numI a))))) := q1
  have q2 : Ans X 96 [.sl (nats (canL (numI a))), vi 2] _ := P96 (numI a) 2 hN hb (by decide) (by decide)
  have q3 : Ans X 96 [.sl (nats (canL (rem 2 (numI a)))), vi 3] _ := P96 _ 3 hr2.2.1 hb2 (by decide) (by decide)
  have q5 : Ans X 96 [.sl (nats (canL (rem 3 (rem 2 (numI a))))), vi 5] _ := P96 _ 5 hr3.2.1 hb3 (by decide) (by decide)
  have qo : Ans X 95 [vi 1] _ := P95 1 (by decide)
  have qc := P97 (rem 5 (rem 3 (rem 2 (numI a)))) 1 (Nat.lt_of_le_of_lt (canL_length_le.2 hb5) (by decide)) (Nat.lt_of_le_of_lt (canL_length_le.2 (by decide : 1 < 60 ^ 1)) (by decide))
  have hT : (splitF [2, 3, 5] (numI a)).2 = rem 5 (rem 3 (rem 2 (numI a))) := rfl
  have hcm := cmp_one _ hr5.2.1
  rw [regS, if_neg (fun e => e hc), if_neg hl, hT]
  clear hr2 hr3 hr5 hb hb2 hb3 hb5 hN b1 b2 b3 b4 h hT hl hc
  generalize rem 5 (rem 3 (rem 2 (numI a))) = R at *
  refine gPS (aI @h0 <|aI @hm <|aI @co85 <|aI @sr85 <|aI @co95 <|aI @sr95 <|aI @co96 <|aI @sr96 <|aI @co97 <|aI @sr97 <|aI @q1.iffx <|aI @q2.iffx <|aI @q3.iffx <|aI @q5.iffx <|aI @qo.iffx <|@qc.iffx) ?_
  refine cnd (fun h => ?_) (fun h => ?_)
  · have h : ¬ cmpN R 1 = 0 := by simpa using h
    refine gP @Nat.zero_add ?_
    refine rP hd @Tryd.results38 ?_
    try exact True.intro
    rfl
  · have h : cmpN R 1 = 0 := by simpa using h
    refine gP @Nat.zero_add ?_
    refine rP hd @Tryd.results38 ?_
    try exact True.intro
    rw [if_neg (fun e => e (hcm.1 h))]
theorem turn_digB (i j k : Nat) : digB (30 ^ i * 20 ^ j * 12 ^ k) = digB (invW i j k) := by
  have h : Rec (2 ^ i * 3 ^ j * 5 ^ k) (30 ^ i * 20 ^ j * 12 ^ k) := by
    refine ⟨i + j + k, ?_⟩
    rw [Nat.pow_add, Nat.pow_add, show (60 : Nat) ^ i = 2 ^ i * 30 ^ i by rw [← Nat.mul_pow], show (60 : Nat) ^ j = 3 ^ j * 20 ^ j by rw [← Nat.mul_pow], show (60 : Nat) ^ k = 5 ^ k * 12 ^ k by rw [← Nat.mul_pow]]
    grind
  exact h.uniq (rec_inv i j k)
theorem P39 (a : List Int) : Ans X 39 [.sl (ints a)] (.ret (.tup [.sl (nats (recS a).1), vi (recS a).2])) := by
  refine call_of_X (fn := Tryd.f39) 1 Tryd.func39 rfl (by decide +kernel) rfl ?_ ?_ ?_ ?_
  · rfl
  · intro h; exact absurd h (by rw [sr39]; decide)
  · intro v hv; injection hv with hv; subst hv; rfl
  intro s hs hd ho
  have hm : s.m = ⟨.nil, []⟩ := by subst hs; rfl
  have h0 : s.t.get 0 = .sl (ints a) := by subst hs; rfl
  clear hs
  refine gP (aI @h0 <|aI @hm <|aI @co38 <|aI @sr38 <|((P38 a).iffx)) ?_
  refine cnd (fun h => ?_) (fun h => ?_)
  · have h : (regS a).2.2.2 ≠ 0 := by simpa using h
    refine gP @hm ?_
    refine rPAS hd (aI @Tryd.results39 <|@hm) ?_
    try exact True.intro
    rw [recS, if_pos h]; rfl
  have h : (regS a).2.2.2 = 0 := by simpa using h
  obtain ⟨hc, hl, hN⟩ := reg_spec h
  obtain ⟨bi, bj, bk⟩ := reg_bounds (numI_lt hc) hN
  have q := P98 (regS a).1 (regS a).2.1 (regS a).2.2.1 (by omega) (by omega) (by omega)
  rw [turn_digB] at q
  rw [recS, if_neg (fun e => e h)]
  clear hN bi bj bk hc hl
  generalize digB (invW (regS a).1 (regS a).2.1 (regS a).2.2.1) = r at *
  refine gP (aI @hm <|aI @co98 <|aI @sr98 <|aI @q.iffx <|@nats_length) ?_
  refine cnd (fun h => ?_) (fun h => ?_)
  · have h' := of_decide_eq_true h
    refine gP @hm ?_
    refine rPAS hd (aI @Tryd.results39 <|@hm) ?_
    try exact True.intro
    rfl
  · have h' := of_decide_eq_false h
    refine gP @hm ?_
    refine rP hd @Tryd.results39 ?_
    try exact True.intro
    rw [if_neg (by omega)]
end Go.Proofs.YtpocekfifokndaaDoor
namespace Go.Proofs.YtpocekfifokndaaDoor
open Go Go.Ev Go.Pl
set_option maxRecDepth 100000
set_option maxHeartbeats 4000000
theorem P103 (n : Nat) (hn0 : 0 < n) (hn : n < 9000000000000000000) : Ans X 103 [vn n] (.ret (.bool (decide ((splitF [2, 3, 5] n).2 = 1)))) := by
  refine call_of_X (fn := Tryd.f103) 1 Tryd.func103 rfl (by decide +kernel) rfl ?_ ?_ ?_ ?_
  · rfl
  · exact fun _ => rfl
  · intro v hv; injection hv with hv; subst hv; rfl
  intro s hs hd ho
  have h0 : s.t.get 0 = vn n := by subst hs; rfl
  clear hs
  have hT : (splitF [2, 3, 5] n).2 = rem 5 (rem 3 (rem 2 n)) := rfl
  have step : ∀ p x : Nat, 1 < p → p < 10 → x < 9000000000000000000 → V.int .i64 (wr .i64 (Int.tdiv (x : Int) (p : Int))) = vn (x / p) := fun p x _ _ hx => by
    rw [cast_tdiv, wr_nat]
    have := Nat.div_le_self x p
    omega
  have m2 : ∀ x : Nat, Int.tmod (x : Int) 2 = ((x % 2 : Nat) : Int) := fun x => rfl
  have m3 : ∀ x : Nat, Int.tmod (x : Int) 3 = ((x % 3 : Nat) : Int) := fun x => rfl
  have m5 : ∀ x : Nat, Int.tmod (x : Int) 5 = ((x % 5 : Nat) : Int) := fun x => rfl
  rw [hT]
  refine gP @h0 ?_
  refine W_loopg (fun (x : Nat) s => s.dfs = [] ∧ s.m.out.length = 0 ∧ s.t.get 0 = vn x ∧ 0 < x ∧ x ≤ n ∧ rem 2 n = rem 2 x) (fun x => x) n ?_ ?_
  · refine ⟨hd, ?_, ?_, hn0, Nat.le_refl _, rfl⟩
    all_goals (try refine f0 (aI @h0 <|@ho) ?_);all_goals try exact True.intro
  clear hd h0 ho
  rintro x s ⟨hd, ho, h0, hx0, hxn, hre⟩
  refine gPC (aI @h0 <|@m2) ?_
  refine cnd (fun h => ?_) (fun h => ?_)
  · have h : x % 2 = 0 := by have h' := eq_of_beq h; omega
    have e : V.int .i64 (wr .i64 (Int.tdiv (x : Int) 2)) = vn (x / 2) := step 2 x (by decide) (by decide) (by omega)
    have hd2 := Nat.div_lt_self hx0 (by decide : 1 < 2)
    refine gPC (aI @h0 <|@e) ?_
    refine ⟨x / 2, ⟨hd, ?_, ?_, by omega, by omega, ?_⟩, hd2⟩
    all_goals (try refine f0 @ho ?_);all_goals try exact True.intro
    rw [hre, rem_yes (by decide) hx0 h]
  have h : x % 2 ≠ 0 := by have h' := ne_of_beq_false h; omega
  rw [hre, rem_no h]
  clear hre h hn0
  have hxn' : x < 9000000000000000000 := by omega
  clear hxn hn
  refine gP @Nat.zero_add ?_
  refine W_loopg (fun (y : Nat) s => s.dfs = [] ∧ s.m.out.length = 0 ∧ s.t.get 0 = vn y ∧ 0 < y ∧ y ≤ x ∧ rem 3 x = rem 3 y) (fun x => x) x ?_ ?_
  · refine ⟨hd, ?_, ?_, hx0, Nat.le_refl _, rfl⟩
    all_goals (try refine f0 (aI @h0 <|@ho) ?_);all_goals try exact True.intro
  clear hd h0 ho
  rintro y s ⟨hd, ho, h0, hy0, hyn, hre⟩
  refine gPC (aI @h0 <|@m3) ?_
  refine cnd (fun h => ?_) (fun h => ?_)
  · have h : y % 3 = 0 := by have h' := eq_of_beq h; omega
    have e : V.int .i64 (wr .i64 (Int.tdiv (y : Int) 3)) = vn (y / 3) := step 3 y (by decide) (by decide) (by omega)
    have hd2 := Nat.div_lt_self hy0 (by decide : 1 < 3)
    refine gPC (aI @h0 <|@e) ?_
    refine ⟨y / 3, ⟨hd, ?_, ?_, by omega, by omega, ?_⟩, hd2⟩
    all_goals (try refine f0 @ho ?_);all_goals try exact True.intro
    rw [hre, rem_yes (by decide) hy0 h]
  have h : y % 3 ≠ 0 := by have h' := ne_of_beq_false h; omega
  rw [hre, rem_no h]
  clear hre h hx0
  have hyn' : y < 9000000000000000000 := by omega
  clear hyn hxn'
  refine gP @Nat.zero_add ?_
  refine W_loopg (fun (z : Nat) s => s.dfs = [] ∧ s.m.out.length = 0 ∧ s.t.get 0 = vn z ∧ 0 < z ∧ z ≤ y ∧ rem 5 y = rem 5 z) (fun x => x) y ?_ ?_
  · refine ⟨hd, ?_, ?_, hy0, Nat.le_refl _, rfl⟩
    all_goals (try refine f0 (aI @h0 <|@ho) ?_);all_goals try exact True.intro
  clear hd h0 ho
  rintro z s ⟨hd, ho, h0, hz0, hzn, hre⟩
  refine gPC (aI @h0 <|@m5) ?_
  refine cnd (fun h => ?_) (fun h => ?_)
  · have h : z % 5 = 0 := by have h' := eq_of_beq h; omega
    have e : V.int .i64 (wr .i64 (Int.tdiv (z : Int) 5)) = vn (z / 5) := step 5 z (by decide) (by decide) (by omega)
    have hd2 := Nat.div_lt_self hz0 (by decide : 1 < 5)
    refine gPC (aI @h0 <|@e) ?_
    refine ⟨z / 5, ⟨hd, ?_, ?_, by omega, by omega, ?_⟩, hd2⟩
    all_goals (try refine f0 @ho ?_);all_goals try exact True.intro
    rw [hre, rem_yes (by decide) hz0 h]
  have h : z % 5 ≠ 0 := by have h' := ne_of_beq_false h; omega
  rw [hre, rem_no h]
  refine gP @h0 ?_
  refine rP hd @Tryd.results103 ?_
  try exact True.intro
  congr 1
  by_cases c : z = 1
  · subst c; rfl
  · rw [decide_eq_false c, beq_eq_false_iff_ne]; omega
theorem P104 (n : Nat) (hn : n < 1000000) : Ans X 104 [vn n] (.ret (pairV n)) := by
  refine call_of_X (fn := Tryd.f104) 1 Tryd.func104 rfl (by decide +kernel) rfl ?_ ?_ ?_ ?_
  · rfl
  · intro h; exact absurd h (by rw [sr104]; decide)
  · intro v hv; injection hv with hv; subst hv; rfl
  intro s hs hd ho
  have hm : s.m = ⟨.nil, []⟩ := by subst hs; rfl
  have h0 : s.t.get 0 = vn n := by subst hs; rfl
  clear hs
  have q1 := P95 n (by omega)
  have q2 := P83 n (Nat.lt_of_le_of_lt (canL_length_le.2 (show n < 60 ^ 5 by omega)) (by decide))
  have q3 := P39 (zi (digB n))
  rw [← nats_zi] at q3
  unfold pairV
  refine gPAS (aI @h0 <|aI @hm <|aI @co95 <|aI @sr95 <|aI @co83 <|aI @sr83 <|aI @co39 <|aI @sr39 <|aI @q1.iffx <|aI @q2.iffx <|@q3.iffx) ?_
  refine rPAS hd (aI @Tryd.results104 <|@hm) ?_
  try exact True.intro
end Go.Proofs.YtpocekfifokndaaDoor
namespace Go.Proofs.YtpocekfifokndaaDoor
open Go Go.Ev Go.Pl
set_option maxRecDepth 100000
set_option maxHeartbeats 4000000
theorem split_spec {n : Nat} (hn : 0 < n) (h : (splitF [2, 3, 5] n).2 = 1) : ∃ i j k, n = 2 ^ i * 3 ^ j * 5 ^ k := by
  obtain ⟨e2, p2, _⟩ := rem_spec (p := 2) (by decide) hn
  obtain ⟨e3, p3, _⟩ := rem_spec (p := 3) (by decide) p2
  obtain ⟨e5, p5, _⟩ := rem_spec (p := 5) (by decide) p3
  have h : rem 5 (rem 3 (rem 2 n)) = 1 := h
  rw [h, Nat.one_mul] at e5
  refine ⟨mult 2 n, mult 3 (rem 2 n), mult 5 (rem 3 (rem 2 n)), ?_⟩
  rw [← Nat.mul_comm (5 ^ _), ← e5, Nat.mul_comm (2 ^ _), ← Nat.mul_assoc, ← e3]
  exact e2
theorem rg_split {n : Nat} (hn0 : 0 < n) (hn : n < 60 ^ 16) : (splitF [2, 3, 5] n).2 = 1 ↔ rg n := by
  constructor
  · intro h
    obtain ⟨i, j, k, e⟩ := split_spec hn0 h
    exact rg_of hn (U := invW i j k) (by rw [e]; exact rec_inv i j k)
  · intro h
    exact (rg_rec h).split
theorem stepL_skip {w f : Nat} (hw : 0 < w) : ∀ {F : Nat}, f ≤ F → 0 < f → (∀ g, f < g → g ≤ F → ¬ (rg g ∧ w % g = 0)) → stepL w F = stepL w f
  | 0, h, h0, _ => by omega
  | F + 1, h, h0, hn => by
    by_cases e : f = F + 1
    · rw [e]
    · rw [stepL_no (by omega) hw (hn (F + 1) (by omega) (Nat.le_refl _)), Nat.add_sub_cancel]
      exact stepL_skip hw (by omega) h0 (fun g h1 h2 => hn g h1 (by omega))
theorem stepL_one : stepL 1 81 = [] := by
  cases hL : stepL 1 81 with
  | nil => rfl
  | cons g l =>
    obtain ⟨a, _, _, d⟩ := stepL_mem (w := 1) (f := 81) (Nat.le_refl _) g (by rw [hL]; simp)
    have := Nat.le_of_dvd (by decide) d
    omega
theorem rec_factor {w U : Nat} (h : Rec w U) (hw : w ≠ 1) : w % 2 = 0 ∨ w % 3 = 0 ∨ w % 5 = 0 := by
  by_cases h2 : w % 2 = 0
  · exact .inl h2
  by_cases h3 : w % 3 = 0
  · exact .inr (.inl h3)
  by_cases h5 : w % 5 = 0
  · exact .inr (.inr h5)
  · have hs := h.split
    have e : (splitF [2, 3, 5] w).2 = rem 5 (rem 3 (rem 2 w)) := rfl
    rw [e, rem_no h2, rem_no h3, rem_no h5] at hs
    exact absurd hs hw
theorem step_found {w f : Nat} (hw : 0 < w) (hf1 : 1 < f) (hf : f ≤ 81) (hr : rg f) (hd : w % f = 0) (hn : ∀ g, f < g → g ≤ 81 → ¬ (rg g ∧ w % g = 0)) : stepL w 81 = f :: stepL (w / f) 81 := by
  rw [stepL_skip hw hf (by omega) hn, stepL_yes hf1 hw ⟨hr, hd⟩]
  congr 1
  have e : w / f * f = w := Nat.div_mul_cancel (Nat.dvd_of_mod_eq_zero hd)
  have hp : 0 < w / f := Nat.div_pos (Nat.le_of_dvd hw (Nat.dvd_of_mod_eq_zero hd)) (by omega)
  refine (stepL_skip hp hf (by omega) (fun g h1 h2 h3 => hn g h1 h2 ⟨h3.1, ?_⟩)).symm
  rw [← e]
  exact Nat.mod_eq_zero_of_dvd (Nat.dvd_trans (Nat.dvd_of_mod_eq_zero h3.2) (Nat.dvd_mul_right _ _))
theorem P41 (a : List Int) : Ans X 41 [.sl (ints a)] (.ret (.tup [.sl (pairsV (stepsS a).1), vi (stepsS a).2])) := by
  refine call_of_X (fn := Tryd.f41) 1 Tryd.func41 rfl (by decide +kernel) rfl ?_ ?_ ?_ ?_
  · rfl
  · intro h; exact absurd h (by rw [sr41]; decide)
  · intro v hv; injection hv with hv; subst hv; rfl
  intro s hs hd ho
  have hm : s.m = ⟨.nil, []⟩ := by subst hs; rfl
  have h0 : s.t.get 0 = .sl (ints a) := by subst hs; rfl
  clear hs
  refine gP (aI @h0 <|aI @hm <|aI @co38 <|aI @sr38 <|((P38 a).iffx)) ?_
  refine cnd (fun h => ?_) (fun h => ?_)
  · have h : (regS a).2.2.2 ≠ 0 := by simpa using h
    refine gP @hm ?_
    refine rPAS hd (aI @Tryd.results41 <|@hm) ?_
    try exact True.intro
    rw [stepsS, if_pos h]; rfl
  have h : (regS a).2.2.2 = 0 := by simpa using h
  obtain ⟨hc, hl, hN⟩ := reg_spec h
  obtain ⟨b1, b2, b3, b4, _⟩ := chk_ok hc
  rw [b1] at h0
  rw [stepsS, if_neg (fun e => e h)]
  have hR := rec_inv (regS a).1 (regS a).2.1 (regS a).2.2.1
  rw [← hN] at hR
  generalize invW (regS a).1 (regS a).2.1 (regS a).2.2.1 = U at hR
  have hb := numI_lt hc
  have q1 : Ans X 85 [.sl (nats (natsOf a))] (.ret (.sl (nats (canL (numI a))))) := P85 (natsOf a) b2 (by omega)
  generalize natsOf a = l at *
  generalize numI a = N at *
  clear hN hc hl b1 b2 b3 b4 h
  have qo : Ans X 95 [vi 1] _ := P95 1 (by decide)
  have lo : (canL 1).length < 1000 := Nat.lt_of_le_of_lt (canL_length_le.2 (by decide : 1 < 60 ^ 1)) (by decide)
  refine gP (aI @h0 <|aI @hm <|aI @co85 <|aI @sr85 <|@q1.iffx) ?_
  refine W_loopg (fun (x : Nat × List Nat) s => s.dfs = [] ∧ s.m.out.length = 0 ∧ s.t.get 9 = .sl (nats (canL x.1)) ∧ HeldD s.m 0 8 1 69 (s.t.get 8) (pairsV x.2) ∧ 0 < x.1 ∧ (∃ U, Rec x.1 U) ∧ x.1 * 2 ^ x.2.length ≤ N ∧ stepL N 81 = x.2 ++ stepL x.1 81) (fun x => x.1) (N, []) ?_ ?_
  · refine ⟨hd, ?_, ?_, ⟨1, 0, ?_, ?_, .inr ⟨rfl, rfl⟩⟩, hR.pos, ⟨U, hR⟩, by simp, rfl⟩
    all_goals (try refine f0 @hm ?_);all_goals try exact True.intro
    all_goals rfl
  clear hd h0 hm ho q1 hR
  rintro ⟨w, acc⟩ s ⟨hd, ho, h9, ⟨g, ty, h8, r8, hty⟩, hw, ⟨U, hU⟩, hwN, hst⟩
  dsimp only at h9 h8 r8 hty hw hU hwN hst
  rw [pairsV_length] at h8 hty
  have hwle : w ≤ N := Nat.le_trans (Nat.le_mul_of_pos_right _ (Nat.pow_pos (by decide))) hwN
  have hcl : (canL w).length ≤ 16 := canL_length_le.2 (Nat.lt_of_le_of_lt hwle hb)
  have qc := P97 w 1 (by omega) lo
  have hcm := cmp_one w hw
  have hcnt : acc.length < 100 := by
    have h1 : 2 ^ acc.length ≤ N := Nat.le_trans (Nat.le_mul_of_pos_left _ hw) hwN
    exact (Nat.pow_lt_pow_iff_right (a := 2) (by decide)).1 (Nat.lt_of_le_of_lt h1 (Nat.lt_trans hb (by decide : (60 : Nat) ^ 16 < 2 ^ 100)))
  refine gPS (aI @h9 <|aI @ho <|aI @co95 <|aI @sr95 <|aI @qo.iffx <|aI @co97 <|aI @sr97 <|@qc.iffx) ?_
  refine cnd (fun h => ?_) (fun h => ?_)
  · have hw1 : w ≠ 1 := fun e => by
      have := hcm.2 e
      rw [this] at h; simp at h
    clear h hcm qc
    have hfac := rec_factor hU hw1
    refine gP @Nat.zero_add ?_
    refine W_loopg (fun (f : Nat) s => s.dfs = [] ∧ s.m.out.length = 0 ∧ s.t.get 9 = .sl (nats (canL w)) ∧ s.t.get 8 = .rs ⟨0, 8, 1, g⟩ ty 0 acc.length ∧ s.m.row ⟨0, 8, 1, g⟩ = some ⟨g, ty, true, false, pairsV acc⟩ ∧ s.t.get 10 = vn f ∧
      0 < f ∧ f ≤ 81 ∧ ∀ k, f < k → k ≤ 81 → ¬ (rg k ∧ w % k = 0)) (fun f => f) 81 ?_ ?_
    · refine ⟨hd, ?_, ?_, ?_, ?_, ?_, Nat.zero_lt_succ _, Nat.le_refl _, fun k h1 h2 => by omega⟩
      all_goals (try refine f0 (aI @h9 <|aI @h8 <|aI @r8 <|@ho) ?_);all_goals try exact True.intro
      all_goals rfl
    clear hd ho h9 h8 r8
    rintro f s ⟨hd, ho, h9, h8, r8, h10, hf0, hf81, hno⟩
    refine gP @h10 ?_
    refine cnd (fun h => ?_) (fun h => ?_)
    · have hf2 : 2 ≤ f := by have := of_decide_eq_true h; omega
      clear h
      have q1 := P102 w f (by omega) (by omega) (by omega)
      have q2 := P103 f hf0 (by omega)
      have q3 := P104 f (by omega)
      have hsp := rg_split hf0 (Nat.lt_of_le_of_lt hf81 (by decide))
      have e4 : V.int .i64 (wr .i64 ((f : Int) - 1)) = vn (f - 1) := by rw [wr_i64 (by omega) (by omega)]; congr 1; omega
      unfold pairV at q3
      by_cases c : rg f ∧ w % f = 0
      · rw [decide_eq_true (hsp.2 c.1)] at q2
        have e2 : (((w % f : Nat) : Int) == 0) = true := by rw [c.2]; rfl
        have hfnd := step_found hw (by omega) hf81 c.1 c.2 hno
        rw [hfnd] at hst
        have ediv : w / f * f = w := Nat.div_mul_cancel (Nat.dvd_of_mod_eq_zero c.2)
        have hdiv : 0 < w / f := Nat.div_pos (Nat.le_of_dvd hw (Nat.dvd_of_mod_eq_zero c.2)) (by omega)
        have hpow : w / f * 2 ^ (acc ++ [f]).length ≤ N := by
          have h1 : w / f * 2 ≤ w := Nat.le_trans (Nat.mul_le_mul_left _ hf2) (Nat.div_mul_le_self w f)
          have h2 := Nat.mul_le_mul_right (2 ^ acc.length) h1
          rw [List.length_append, List.length_singleton, Nat.pow_succ, Nat.mul_comm (2 ^ _) 2, ← Nat.mul_assoc]
          omega
        have hUd : Rec (w / f) (f * U) := Rec.div (by rw [ediv]; exact hU)
        have hlt := Nat.div_lt_self hw (by omega : 1 < f)
        clear hno hfac hwN hwle hcl hsp hfnd ediv hw1
        refine gPAS (aI @h8 <|aI @h9 <|aI @h10 <|aI @r8 <|aI @ho <|aI @hty <|aI @co102 <|aI @sr102 <|aI @q1.iffx <|aI @co103 <|aI @sr103 <|aI @q2.iffx <|@e2) ?_
        refine cnd (fun h => ?_) (fun h => ?_)
        · refine gPAS (aI @h8 <|aI @h9 <|aI @h10 <|aI @r8 <|aI @ho <|aI @hty <|aI @co104 <|aI @sr104 <|aI @q3.iffx <|aI @pairsV_length <|aI @cut_pairs <|@pairsV_snoc) ?_
          refine ⟨(w / f, acc ++ [f]), ⟨hd, ?_, ?_, ⟨g + 1, 69, ?_, ?_, .inl rfl⟩, hdiv, ⟨_, hUd⟩, hpow, ?_⟩, hlt⟩
          all_goals (try refine fS (aI @h8 <|aI @r8 <|aI @ho <|@pairsV_length) ?_);all_goals try exact True.intro
          rw [hst]; simp
        · simp at h
      · have hno' : ∀ k, f - 1 < k → k ≤ 81 → ¬ (rg k ∧ w % k = 0) := fun k h1 h2 => by
          by_cases e : k = f
          · subst e; exact c
          · exact hno k (by omega) h2
        have hf1 : 0 < f - 1 ∧ f - 1 ≤ 81 ∧ f - 1 < f := by omega
        by_cases c1 : rg f
        · rw [decide_eq_true (hsp.2 c1)] at q2
          have e2 : (((w % f : Nat) : Int) == 0) = false := by
            have : w % f ≠ 0 := fun e => c ⟨c1, e⟩
            rw [beq_eq_false_iff_ne]; omega
          clear hno hfac hwN hwle hcl hsp hw1
          refine gPAS (aI @h8 <|aI @h9 <|aI @h10 <|aI @r8 <|aI @ho <|aI @co102 <|aI @sr102 <|aI @q1.iffx <|aI @co103 <|aI @sr103 <|aI @q2.iffx <|@e2) ?_
          refine cnd (fun h => ?_) (fun h => ?_)
          · simp at h
          refine gP (aI @h10 <|@e4) ?_
          refine ⟨f - 1, ⟨hd, ?_, ?_, ?_, ?_, ?_, hf1.1, hf1.2.1, hno'⟩, hf1.2.2⟩
          all_goals (try refine f0 (aI @h8 <|aI @h9 <|aI @r8 <|@ho) ?_);all_goals try exact True.intro
        · rw [decide_eq_false (fun e => c1 (hsp.1 e))] at q2
          clear hno hfac hwN hwle hcl hsp hw1
          refine gPAS (aI @h8 <|aI @h9 <|aI @h10 <|aI @r8 <|aI @ho <|aI @co102 <|aI @sr102 <|aI @q1.iffx <|aI @co103 <|aI @sr103 <|@q2.iffx) ?_
          refine cnd (fun h => ?_) (fun h => ?_)
          · simp at h
          refine gP (aI @h10 <|@e4) ?_
          refine ⟨f - 1, ⟨hd, ?_, ?_, ?_, ?_, ?_, hf1.1, hf1.2.1, hno'⟩, hf1.2.2⟩
          all_goals (try refine f0 (aI @h8 <|aI @h9 <|aI @r8 <|@ho) ?_);all_goals try exact True.intro
    · exfalso
      have hf1 : f = 1 := by have := of_decide_eq_false h; omega
      rcases hfac with h | h | h
      · exact hno 2 (by omega) (by decide) ⟨rg2, h⟩
      · exact hno 3 (by omega) (by decide) ⟨rg3, h⟩
      · exact hno 5 (by omega) (by decide) ⟨rg5, h⟩
  · have hw1 : w = 1 := by
      refine hcm.1 ?_
      simpa using h
    rw [hw1, stepL_one, List.append_nil] at hst
    rw [hst]
    clear hst h hcm qc
    refine gPS (aI @h8 <|@r8) ?_
    refine rPAS hd (aI @Tryd.results41 <|aI @h8 <|aI @r8 <|aI @ho <|aI @pairsV_length <|@cut_pairs) ?_
    try exact True.intro
end Go.Proofs.YtpocekfifokndaaDoor
namespace Go.Proofs.YtpocekfifokndaaDoor
open Go Go.Ev Go.Pl
set_option maxRecDepth 100000
set_option maxHeartbeats 4000000
def prV (p : List Nat × List Nat) : V := .agg [.sl (nats p.1), .sl (nats p.2)]
theorem P42 (ps : List (List Nat × List Nat)) (hl : ps.length < 1000000000000) (hb : ∀ p ∈ ps, p.1.length < 1000000000000 ∧ p.2.length < 1000000000000) : Ans X 42 [.sl (ps.map prV), .sl (ps.map prV)] (.ret (.bool true)) := by
  refine call_of_X (fn := Tryd.f42) 2 Tryd.func42 rfl (by decide +kernel) rfl ?_ ?_ ?_ ?_
  · rfl
  · exact fun _ => rfl
  · intro v hv; injection hv with hv; subst hv; rfl
  intro s hs hd ho
  have h0 : s.t.get 0 = .sl (ps.map prV) := by subst hs; rfl
  have h1 : s.t.get 1 = .sl (ps.map prV) := by subst hs; rfl
  clear hs
  have hlen : (ps.map prV).length = ps.length := by simp
  have hget : ∀ (i : Nat) (p : List Nat × List Nat), ps[i]? = some p → (ps.map prV)[i]? = some (V.agg [.sl (nats p.1), .sl (nats p.2)]) := fun i p h => by rw [List.getElem?_map, h]; rfl
  generalize ps.map prV = L at *
  refine gP (aI @h0 <|aI @h1 <|aI @hlen <|@bne_self_eq_false.{0}) ?_
  refine cnd (fun h => ?_) (fun h => ?_)
  · simp at h
  clear h
  refine gP @Nat.zero_add ?_
  refine W_loopg (fun (k : Nat) s => s.dfs = [] ∧ s.m.out.length = 0 ∧ s.t.get 0 = .sl L ∧ s.t.get 1 = .sl L ∧ s.t.get 5 = vn k ∧ k ≤ ps.length) (fun k => ps.length - k) 0 ?_ ?_
  · refine ⟨hd, ?_, ?_, ?_, ?_, Nat.zero_le _⟩
    all_goals (try refine f0 (aI @h0 <|aI @h1 <|@ho) ?_);all_goals try exact True.intro
    rfl
  clear hd h0 h1 ho
  rintro k s ⟨hd, ho, h0, h1, h5, hk⟩
  refine gP (aI @h0 <|aI @h1 <|aI @h5 <|@hlen) ?_
  refine cnd (fun h => ?_) (fun h => ?_)
  · have hk' : k < ps.length := by have := of_decide_eq_true h; omega
    clear h
    obtain ⟨p, hp⟩ : ∃ p, ps[k]? = some p := ⟨ps[k], by simp⟩
    obtain ⟨l1, l2⟩ := hb p (List.mem_of_getElem? hp)
    have hg := hget k p hp
    have q1 := Q25 p.1 l1
    have q2 := Q25 p.2 l2
    have hk1 : (k : Int) < (ps.length : Int) := by omega
    have hk0 : (0 : Int) ≤ (k : Int) := by omega
    have e : V.int .i64 (wr .i64 ((k : Int) + 1)) = vn (k + 1) := by rw [wr_i64 (by omega) (by omega)]; rfl
    clear hb hget hp l1 l2
    refine gPS (aI @h0 <|aI @h1 <|aI @h5 <|aI @ho <|aI @hlen <|aI @hg <|aI @hk1 <|aI @hk0 <|aI @Bool.not_true <|aI @co25 <|aI @sr25 <|aI @q1.iffx <|@q2.iffx) ?_
    refine cnd (fun h => ?_) (fun h => ?_)
    · simp at h
    refine gP (aI @h5 <|@e) ?_
    refine ⟨k + 1, ⟨hd, ?_, ?_, ?_, ?_, by omega⟩, by omega⟩
    all_goals (try refine f0 (aI @h0 <|aI @h1 <|@ho) ?_);all_goals try exact True.intro
  · refine gP @Nat.zero_add ?_
    refine rP hd @Tryd.results42 ?_
    try exact True.intro
end Go.Proofs.YtpocekfifokndaaDoor
