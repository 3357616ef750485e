/- Part 12 of the proof: an evaluator of the program, proved sound against the model, and what the functions of the program compute. No condition but those each theorem states. -/
import Derived.Test.YtpocekfifokndaaDoorG2
import Derived.Test.YtpocekfifokndaaDoorG1
import Derived.Test.YtpocekfifokndaaDoorG9
import Derived.Test.YtpocekfifokndaaDoorG6
import Derived.Test.YtpocekfifokndaaDoorG8
import Derived.Test.YtpocekfifokndaaDoorG11
set_option linter.unusedSimpArgs false
set_option linter.unusedVariables false
namespace Go.Proofs.YtpocekfifokndaaDoor
open Go Go.Ev Go.Pl
set_option maxRecDepth 100000
set_option maxHeartbeats 4000000
def rt : Nat → Nat
  | 0 => 0
  | n + 1 => if (rt n + 1) * (rt n + 1) ≤ n + 1 then rt n + 1 else rt n
theorem rt_spec : ∀ n, rt n * rt n ≤ n ∧ n < (rt n + 1) * (rt n + 1)
  | 0 => ⟨Nat.le_refl _, by decide⟩
  | n + 1 => by
    obtain ⟨h1, h2⟩ := rt_spec n
    rw [rt]
    split
    · rename_i h
      refine ⟨h, ?_⟩
      have e : (rt n + 1 + 1) * (rt n + 1 + 1) = (rt n + 1) * (rt n + 1) + 2 * (rt n + 1) + 1 := by grind
      omega
    · exact ⟨by omega, by omega⟩
theorem sq_le {a b : Nat} (h : a ≤ b) : a * a ≤ b * b := Nat.mul_le_mul h h
theorem rt_uniq {n r : Nat} (h1 : r * r ≤ n) (h2 : n < (r + 1) * (r + 1)) : rt n = r := by
  obtain ⟨g1, g2⟩ := rt_spec n
  rcases Nat.lt_trichotomy (rt n) r with h | h | h
  · have := sq_le (show rt n + 1 ≤ r from h); omega
  · exact h
  · have := sq_le (show r + 1 ≤ rt n from h); omega
theorem rt_lt {n B : Nat} (h : n < B * B) : rt n < B := by
  obtain ⟨g1, g2⟩ := rt_spec n
  rcases Nat.lt_or_ge (rt n) B with h' | h'
  · exact h'
  · have := sq_le h'; omega
theorem rt_lt_iff {n B : Nat} : rt n < B ↔ n < B * B := by
  refine ⟨fun h => ?_, rt_lt⟩
  have := sq_le (show rt n + 1 ≤ B from h)
  have := (rt_spec n).2
  omega
theorem P111 (n : Nat) (hn : n < 1152921504606846976) : Ans X 111 [vn n] (.ret (vn (rt n))) := by
  refine call_of_X (fn := Tryd.f111) 1 Tryd.func111 rfl (by decide +kernel) rfl ?_ ?_ ?_ ?_
  · rfl
  · exact fun _ => rfl
  · intro v hv; injection hv with hv; subst hv; rfl
  intro s hs hd ho
  have h0 : s.t.get 0 = vn n := by subst hs; rfl
  clear hs
  refine gP @h0 ?_
  refine W_loopg (fun (x : Nat × Nat) s => s.dfs = [] ∧ s.m.out.length = 0 ∧ s.t.get 0 = vn n ∧ s.t.get 3 = vn x.1 ∧ s.t.get 4 = vn x.2 ∧ x.1 ≤ x.2 ∧ x.2 ≤ 1073741824 ∧ x.1 * x.1 ≤ n ∧ n < (x.2 + 1) * (x.2 + 1)) (fun x => x.2 - x.1) (0, 1073741824) ?_ ?_
  · refine ⟨hd, ?_, ?_, ?_, ?_, Nat.zero_le _, Nat.le_refl _, Nat.zero_le _, by omega⟩
    all_goals (try refine f0 (aI @h0 <|@ho) ?_);all_goals try exact True.intro
    all_goals rfl
  clear hd h0 ho
  rintro ⟨lo, hi⟩ s ⟨hd, ho, h0, h3, h4, hlh, hhi, hlo2, hhi2⟩
  dsimp only at h3 h4 hlh hhi hlo2 hhi2
  refine gP (aI @h3 <|@h4) ?_
  refine cnd (fun h => ?_) (fun h => ?_)
  · have h : lo < hi := by have := of_decide_eq_true h; omega
    obtain ⟨m, hm⟩ : ∃ m, m = (lo + hi + 1) / 2 := ⟨_, rfl⟩
    have hmb : lo < m ∧ m ≤ hi := by omega
    have e1 : wr .i64 (Int.tdiv ((lo + hi + 1 : Nat) : Int) 2) = (m : Int) := by
      rw [show Int.tdiv ((lo + hi + 1 : Nat) : Int) 2 = (((lo + hi + 1) / 2 : Nat) : Int) from rfl, ← hm, wr_nat (by omega)]
    have hmm : m * m ≤ 1073741824 * 1073741824 := sq_le (by omega)
    have e2 : wr .i64 ((m * m : Nat) : Int) = ((m * m : Nat) : Int) := wr_nat (by omega)
    have e3 : V.int .i64 (wr .i64 ((m : Int) - 1)) = vn (m - 1) := by rw [wr_i64 (by omega) (by omega)]; congr 1; omega
    have hlt1 : hi - m < hi - lo ∧ m - 1 - lo < hi - lo ∧ m - 1 ≤ 1073741824 ∧ lo ≤ m - 1 := by omega
    have hm1 : m - 1 + 1 = m := by omega
    generalize hq : m * m = q at *
    clear hm hmm
    refine gPC (aI @h0 <|aI @h3 <|aI @h4 <|aI @e1 <|aI @e2 <|@hq) ?_
    refine cnd (fun h => ?_) (fun h => ?_)
    · have h' : q ≤ n := by have := of_decide_eq_true h; omega
      refine gP @Nat.zero_add ?_
      refine ⟨(m, hi), ⟨hd, ?_, ?_, ?_, ?_, hmb.2, hhi, ?_, hhi2⟩, hlt1.1⟩
      all_goals (try refine f0 (aI @h0 <|aI @h4 <|@ho) ?_);all_goals try exact True.intro
      rw [hq]; exact h'
    · have h' : n < q := by have := of_decide_eq_false h; omega
      refine gP @e3 ?_
      refine ⟨(lo, m - 1), ⟨hd, ?_, ?_, ?_, ?_, hlt1.2.2.2, hlt1.2.2.1, hlo2, ?_⟩, hlt1.2.1⟩
      all_goals (try refine f0 (aI @h0 <|aI @h3 <|@ho) ?_);all_goals try exact True.intro
      rw [hm1, hq]; exact h'
  · have h : lo = hi := by have := of_decide_eq_false h; omega
    subst h
    have e := rt_uniq hlo2 hhi2
    rw [e]
    refine gP @h3 ?_
    refine rP hd @Tryd.results111 ?_
    try exact True.intro
theorem P112 (n : Nat) (hn : n < 4611686018427387904) : Ans X 112 [vn n] (.ret (vn (rt n))) := by
  refine call_of_X (fn := Tryd.f112) 1 Tryd.func112 rfl (by decide +kernel) rfl ?_ ?_ ?_ ?_
  · rfl
  · exact fun _ => rfl
  · intro v hv; injection hv with hv; subst hv; rfl
  intro s hs hd ho
  have h0 : s.t.get 0 = vn n := by subst hs; rfl
  clear hs
  refine gP @h0 ?_
  refine W_loopg (fun (x : Nat × Nat) s => s.dfs = [] ∧ s.m.out.length = 0 ∧ s.t.get 0 = vn n ∧ s.t.get 3 = vn x.1 ∧ s.t.get 4 = vn x.2 ∧ x.1 < x.2 ∧ x.2 ≤ 2147483648 ∧ x.1 * x.1 ≤ n ∧ n < x.2 * x.2) (fun x => x.2 - x.1) (0, 2147483648) ?_ ?_
  · refine ⟨hd, ?_, ?_, ?_, ?_, Nat.zero_lt_succ _, Nat.le_refl _, Nat.zero_le _, by omega⟩
    all_goals (try refine f0 (aI @h0 <|@ho) ?_);all_goals try exact True.intro
    all_goals rfl
  clear hd h0 ho
  rintro ⟨lo, hi⟩ s ⟨hd, ho, h0, h3, h4, hlh, hhi, hlo2, hhi2⟩
  dsimp only at h3 h4 hlh hhi hlo2 hhi2
  have e0 : wr .i64 ((hi : Int) - lo) = (hi : Int) - lo := by rw [wr_i64 (by omega) (by omega)]
  by_cases c : 1 < hi - lo
  · have c' : (hi : Int) - lo > 1 := by omega
    have c2 : decide (wr .i64 ((hi : Int) - lo) > 1) = true := by rw [e0]; exact decide_eq_true c'
    clear e0 c'
    obtain ⟨m, hm⟩ : ∃ m, m = (lo + hi) / 2 := ⟨_, rfl⟩
    have hmb : lo < m ∧ m < hi := by omega
    have e1 : wr .i64 (Int.tdiv ((lo + hi : Nat) : Int) 2) = (m : Int) := by
      rw [show Int.tdiv ((lo + hi : Nat) : Int) 2 = (((lo + hi) / 2 : Nat) : Int) from rfl, ← hm, wr_nat (by omega)]
    have hmm : m * m ≤ 2147483648 * 2147483648 := sq_le (by omega)
    have e2 : wr .i64 ((m * m : Nat) : Int) = ((m * m : Nat) : Int) := wr_nat (by omega)
    have hlt1 : hi - m < hi - lo ∧ m - lo < hi - lo ∧ m ≤ 2147483648 := by omega
    generalize hq : m * m = q at *
    clear hm hmm
    refine gPC (aI @h0 <|aI @h3 <|aI @h4 <|@c2) ?_
    refine cnd (fun h => ?_) (fun h => ?_)
    · refine gPC (aI @h0 <|aI @h3 <|aI @h4 <|aI @e1 <|aI @e2 <|@hq) ?_
      refine cnd (fun h => ?_) (fun h => ?_)
      · have h' : q ≤ n := by have := of_decide_eq_true h; omega
        refine gP @Nat.zero_add ?_
        refine ⟨(m, hi), ⟨hd, ?_, ?_, ?_, ?_, hmb.2, hhi, ?_, hhi2⟩, hlt1.1⟩
        all_goals (try refine f0 (aI @h0 <|aI @h4 <|@ho) ?_);all_goals try exact True.intro
        rw [hq]; exact h'
      · have h' : n < q := by have := of_decide_eq_false h; omega
        refine gP @Nat.zero_add ?_
        refine ⟨(lo, m), ⟨hd, ?_, ?_, ?_, ?_, hmb.1, hlt1.2.2, hlo2, ?_⟩, hlt1.2.1⟩
        all_goals (try refine f0 (aI @h0 <|aI @h3 <|@ho) ?_);all_goals try exact True.intro
        rw [hq]; exact h'
    · simp at h
  · have c2 : decide (wr .i64 ((hi : Int) - lo) > 1) = false := by rw [e0]; exact decide_eq_false (by omega)
    clear e0
    obtain rfl : hi = lo + 1 := by omega
    have e := rt_uniq hlo2 hhi2
    rw [e]
    refine gPC (aI @h0 <|aI @h3 <|aI @h4 <|@c2) ?_
    refine cnd (fun h => ?_) (fun h => ?_)
    · simp at h
    refine gP @h3 ?_
    refine rP hd @Tryd.results112 ?_
    try exact True.intro
end Go.Proofs.YtpocekfifokndaaDoor
namespace Go.Proofs.YtpocekfifokndaaDoor
open Go Go.Ev Go.Pl
set_option maxRecDepth 100000
set_option maxHeartbeats 4000000
def rdn (B : Nat) : Nat → Nat → Nat → Nat × Nat
  | 0, x, k => (x, k)
  | f + 1, x, k => if B ≤ rt x then rdn B f (x / 3600) (k + 1) else (x, k)
def rup (B : Nat) : Nat → Nat → Int → Nat × Int
  | 0, x, k => (x, k)
  | f + 1, x, k => if rt x < B then rup B f (x * 3600) (k - 1) else (x, k)
def rootX (n d : Nat) : Nat × Int := rup (60 ^ (d - 1)) 8 (rdn (60 ^ d) 8 n 0).1 (rdn (60 ^ d) 8 n 0).2
theorem rt_pos {x : Nat} (h : 0 < x) : 0 < rt x := by
  rcases Nat.eq_zero_or_pos (rt x) with h0 | h0
  · have := (rt_spec x).2
    rw [h0] at this; omega
  · exact h0
theorem shV_eq {N : Nat} (h : 0 < N) (sh : Int) : placeV N sh = shV N sh := by
  rw [placeV, shV, if_neg (by omega), Int.add_comm]
theorem P46 (n d : Nat) (hn0 : 0 < n) (hn : n ≤ 1099511627776) (hd0 : 0 < d) (hd5 : d ≤ 5) : Ans X 46 [vn n, vn d] (.ret (.tup [shV (rt (rootX n d).1) (rootX n d).2, vi 0])) := by
  refine call_of_X (fn := Tryd.f46) 2 Tryd.func46 rfl (by decide +kernel) rfl ?_ ?_ ?_ ?_
  · rfl
  · intro h; exact absurd h (by rw [sr46]; decide)
  · intro v hv; injection hv with hv; subst hv; rfl
  intro s hs hd ho
  have hm : s.m = ⟨.nil, []⟩ := by subst hs; rfl
  have h0 : s.t.get 0 = vn n := by subst hs; rfl
  have h1 : s.t.get 1 = vn d := by subst hs; rfl
  clear hs
  have c1 : ¬ ((n : Int) < 1) := by omega
  have c2 : ¬ ((n : Int) > 1099511627776) := by omega
  have c3 : ¬ ((d : Int) < 1) := by omega
  have c4 : ¬ ((d : Int) > 5) := by omega
  have qd := P106 d (by omega)
  have qd1 := P106 (d - 1) (by omega)
  have hdd : (d : Int) - 1 = ((d - 1 : Nat) : Int) := by omega
  have hB1 : 60 ^ (d - 1) ≤ 60 ^ 4 := Nat.pow_le_pow_right (by decide) (by omega)
  have hBp : 0 < 60 ^ (d - 1) := pow_pos _
  have hB0 : 60 ≤ 60 ^ d := by
    calc 60 = 60 ^ 1 := rfl
      _ ≤ 60 ^ d := Nat.pow_le_pow_right (by decide) hd0
  rw [rootX]
  generalize 60 ^ (d - 1) = B' at *
  generalize 60 ^ d = B at *
  generalize hRd : rdn B 8 n 0 = R
  refine gPA (aI @h0 <|aI @h1 <|aI @hm <|aI @c1 <|aI @c2 <|aI @c3 <|@c4) ?_
  refine cnd (fun h => ?_) (fun h => ?_)
  · simp at h
  clear h c1 c2 c3 c4
  refine gPA (aI @h0 <|aI @h1 <|@hm) ?_
  refine W_loopg (fun (x : Nat × Nat) s => s.dfs = [] ∧ s.m.out.length = 0 ∧ s.t.get 1 = vn d ∧ s.t.get 4 = .ptr ⟨0, 4, 0, 1⟩ 0 0 ∧ s.t.get 6 = vn x.1 ∧ s.t.get 7 = vn x.2 ∧ s.m.row ⟨0, 4, 0, 1⟩ = some ⟨1, 54, false, false, [.agg [.rs ⟨0, 4, 1, 1⟩ 0 0 0, vi 0]]⟩ ∧
    x.2 ≤ 8 ∧ 0 < x.1 ∧ x.1 * 3600 ^ x.2 ≤ n ∧ R = rdn B (8 - x.2) x.1 x.2) (fun x => x.1) (n, 0) ?_ ?_
  · refine ⟨hd, ?_, ?_, ?_, ?_, ?_, ?_, Nat.zero_le _, hn0, by simp, hRd.symm⟩
    all_goals (try refine f0 (aI @h0 <|aI @h1 <|@hm) ?_);all_goals try exact True.intro
    all_goals rfl
  clear hd h0 h1 hm ho hRd
  rintro ⟨x, k⟩ s ⟨hd, ho, h1, h4, h6, h7, r4, hk, hx0, hxn, hr⟩
  dsimp only at h6 h7 hk hx0 hxn hr
  have hxle : x ≤ n := Nat.le_trans (Nat.le_mul_of_pos_right _ (Nat.pow_pos (by decide))) hxn
  have q1 := P111 x (by omega)
  have hk8 : k < 8 := by
    rcases Nat.lt_or_ge k 8 with h | h
    · exact h
    · obtain rfl : k = 8 := by omega
      have : 3600 ^ 8 ≤ x * 3600 ^ 8 := Nat.le_mul_of_pos_left _ hx0
      omega
  refine gP (aI @h1 <|aI @h6 <|aI @ho <|aI @co111 <|aI @sr111 <|aI @q1.iffx <|aI @co106 <|aI @sr106 <|@qd.iffx) ?_
  rw [show 8 - k = (8 - (k + 1)) + 1 by omega, rdn] at hr
  refine cnd (fun h => ?_) (fun h => ?_)
  · have hB : B ≤ rt x := by have := of_decide_eq_true h; omega
    rw [if_pos hB] at hr
    have hx3600 : 3600 ≤ x := by
      have := sq_le (show 60 ≤ rt x by omega)
      have := (rt_spec x).1
      omega
    have hdv : 0 < x / 3600 := Nat.div_pos hx3600 (by decide)
    have hlt : x / 3600 < x := Nat.div_lt_self hx0 (by decide)
    have hxn' : x / 3600 * 3600 ^ (k + 1) ≤ n := by
      have e1 : x / 3600 * 3600 ≤ x := Nat.div_mul_le_self x 3600
      rw [Nat.pow_succ, Nat.mul_comm (3600 ^ k), ← Nat.mul_assoc]
      exact Nat.le_trans (Nat.mul_le_mul_right _ e1) hxn
    have e1 : V.int .i64 (wr .i64 (Int.tdiv (x : Int) 3600)) = vn (x / 3600) := by
      rw [show Int.tdiv (x : Int) 3600 = ((x / 3600 : Nat) : Int) from rfl, wr_nat (by omega)]
    have e2 : V.int .i64 (wr .i64 ((k : Int) + 1)) = vn (k + 1) := by rw [wr_i64 (by omega) (by omega)]; rfl
    clear hxn hB hx3600
    repeat (first
      | with_reducible first | refine W_seq ?_ | refine W_skip ?_ | refine W_label ?_ | refine W_ret ?_ | refine W_exit ?_ | refine W_block ?_ | refine thenI ?_ | refine thenRet ?_ | refine thenExit ?_ | refine blockRet ?_ | refine blockI ?_ | refine blockExit ?_ | refine blockExitNe rfl ?_
      | (with_reducible refine W_region_k ?_
         intro K hK
         simp (maxSteps := 2000000) (disch := omega) only [SA, ofValue, ofCell, bin, intBin, un, idx, Go.Ev.builtin, calleeOf, V.isNilS, V.depthOk, depth1, V.ok1, V.isAgg, V.cells, isConst, Nat.reduceBEq, Nat.reduceEqDiff, ↓reduceIte, Nat.reduceLeDiff, Nat.reduceAdd, Nat.reduceMul, Nat.reduceSub, Nat.reduceLT, Int.reduceAdd, Int.reduceSub, Int.reduceMul, Int.reduceLT, Int.reduceLE, Int.reduceToNat, Int.reduceNeg, reduceIte, reduceCtorEq, SPx, h6, h7, e1, e2, Int.reduceEq]
         refine hK _ _ ?_
         clear hK K)
    )
    refine ⟨(x / 3600, k + 1), ⟨hd, ?_, ?_, ?_, ?_, ?_, ?_, by omega, hdv, hxn', hr⟩, hlt⟩
    all_goals (try refine f0 (aI @h1 <|aI @h4 <|aI @r4 <|@ho) ?_);all_goals try exact True.intro
  have hB : ¬ B ≤ rt x := by have := of_decide_eq_false h; omega
  rw [if_neg hB] at hr
  subst hr
  dsimp only
  clear h hB hxn qd
  generalize hRu : rup B' 8 x (k : Int) = R
  refine gP @Nat.zero_add ?_
  refine W_loopg (fun (y : Nat × Nat) s => s.dfs = [] ∧ s.m.out.length = 0 ∧ s.t.get 1 = vn d ∧ s.t.get 4 = .ptr ⟨0, 4, 0, 1⟩ 0 0 ∧ s.t.get 6 = vn y.1 ∧ s.t.get 7 = vi ((k : Int) - y.2) ∧ s.m.row ⟨0, 4, 0, 1⟩ = some ⟨1, 54, false, false, [.agg [.rs ⟨0, 4, 1, 1⟩ 0 0 0, vi 0]]⟩ ∧
    y.2 ≤ 8 ∧ 0 < y.1 ∧ 3600 ^ y.2 ≤ y.1 ∧ y.1 < 60 ^ 10 ∧ R = rup B' (8 - y.2) y.1 ((k : Int) - y.2)) (fun y => 60 ^ 10 - y.1) (x, 0) ?_ ?_
  · refine ⟨hd, ?_, ?_, ?_, ?_, ?_, ?_, Nat.zero_le _, hx0, hx0, by omega, by rw [← hRu]; simp⟩
    all_goals (try refine f0 (aI @h1 <|aI @h4 <|aI @h6 <|aI @h7 <|aI @r4 <|@ho) ?_);all_goals try exact True.intro
    all_goals simp
  clear hd ho h1 h4 h6 h7 r4 q1 hRu
  rintro ⟨y, j⟩ s ⟨hd, ho, h1, h4, h6, h7, r4, hj, hy0, hyj, hyb, hr⟩
  dsimp only at h6 h7 hj hy0 hyj hyb hr
  have q1 := P111 y (by omega)
  have hj8 : j < 8 := by
    rcases Nat.lt_or_ge j 8 with h | h
    · exact h
    · obtain rfl : j = 8 := by omega
      omega
  rw [show 8 - j = (8 - (j + 1)) + 1 by omega, rup] at hr
  refine gP (aI @h1 <|aI @h6 <|aI @ho <|aI @hdd <|aI @wr_nat <|aI @co111 <|aI @sr111 <|aI @q1.iffx <|aI @co106 <|aI @sr106 <|@qd1.iffx) ?_
  refine cnd (fun h => ?_) (fun h => ?_)
  · have hB : rt y < B' := by have := of_decide_eq_true h; omega
    rw [if_pos hB] at hr
    have hy4 : y < 60 ^ 8 := by
      have h1 := rt_lt_iff.1 hB
      have h2 := sq_le hB1
      exact Nat.lt_of_lt_of_le h1 h2
    have hyj' : 3600 ^ (j + 1) ≤ y * 3600 := by rw [Nat.pow_succ]; exact Nat.mul_le_mul_right _ hyj
    have e1 : V.int .i64 (wr .i64 ((y : Int) * 3600)) = vn (y * 3600) := by
      rw [show (y : Int) * 3600 = ((y * 3600 : Nat) : Int) from rfl, wr_nat (by omega)]
    have e2 : V.int .i64 (wr .i64 ((k : Int) - j - 1)) = vi ((k : Int) - ((j + 1 : Nat) : Int)) := by rw [wr_i64 (by omega) (by omega)]; congr 1; omega
    have hnum : y * 3600 < 60 ^ 10 ∧ 60 ^ 10 - y * 3600 < 60 ^ 10 - y ∧ 0 < y * 3600 := by omega
    have e3 : (k : Int) - j - 1 = (k : Int) - ((j + 1 : Nat) : Int) := by omega
    rw [e3] at hr
    clear hyj hB hy4 e3
    refine gP (aI @h6 <|aI @h7 <|aI @e1 <|@e2) ?_
    refine ⟨(y * 3600, j + 1), ⟨hd, ?_, ?_, ?_, ?_, ?_, ?_, by omega, hnum.2.2, hyj', hnum.1, hr⟩, hnum.2.1⟩
    all_goals (try refine f0 (aI @h1 <|aI @h4 <|aI @r4 <|@ho) ?_);all_goals try exact True.intro
  have hB : ¬ rt y < B' := by have := of_decide_eq_false h; omega
  rw [if_neg hB] at hr
  subst hr
  dsimp only
  have hrt : rt y < 60 ^ 5 := rt_lt (by omega)
  have q2 := P107 (rt y) ((k : Int) - j) (by omega) (by omega) (by omega)
  unfold shV at q2 ⊢
  clear hB h hyj hyb hy0 hrt
  refine gPAS (aI @h1 <|aI @h4 <|aI @h6 <|aI @h7 <|aI @r4 <|aI @ho <|aI @co111 <|aI @sr111 <|aI @q1.iffx <|aI @co107 <|aI @sr107 <|@q2.iffx) ?_
  refine rPA hd (aI @Tryd.results46 <|aI @h4 <|aI @r4 <|@ho) ?_
  try exact True.intro
end Go.Proofs.YtpocekfifokndaaDoor
namespace Go.Proofs.YtpocekfifokndaaDoor
open Go Go.Ev Go.Pl
set_option maxRecDepth 100000
set_option maxHeartbeats 4000000
theorem canL_pow (k : Nat) : canL (60 ^ k) = List.replicate k 0 ++ [1] := by
  have h := canL_shift (N := 1) (by decide) k
  rw [Nat.one_mul] at h
  rw [h]
  congr 1
  rw [canL_pos (by decide), show 1 / 60 = 0 from rfl, canL_zero]
theorem P108 (k : Nat) (hk : k < 500) : Ans X 108 [vn k] (.ret (.sl (nats (canL (60 ^ k))))) := by
  refine call_of_X (fn := Tryd.f108) 1 Tryd.func108 rfl (by decide +kernel) rfl ?_ ?_ ?_ ?_
  · rfl
  · intro h; exact absurd h (by rw [sr108]; decide)
  · intro v hv; injection hv with hv; subst hv; rfl
  intro s hs hd ho
  have hm : s.m = ⟨.nil, []⟩ := by subst hs; rfl
  have h0 : s.t.get 0 = vn k := by subst hs; rfl
  clear hs
  have e1 : V.int .i64 (wr .i64 ((k : Int) + 1)) = vn (k + 1) := by rw [wr_i64 (by omega) (by omega)]; rfl
  have hset : (nats (List.replicate (k + 1) 0)).set k (V.int .i64 1) = nats (canL (60 ^ k)) := by
    rw [show V.int .i64 1 = vn 1 from rfl, nats_set, canL_pow]
    congr 1
    rw [List.replicate_succ', List.set_append_right _ _ (by simp)]
    simp
  have hg : (nats (List.replicate (k + 1) 0))[k]? = some (vn 0) := by rw [nats_get?]; simp
  have hlen : (canL (60 ^ k)).length = k + 1 := by rw [canL_pow]; simp
  have hcut : cut (nats (canL (60 ^ k))) 0 (k + 1) = nats (canL (60 ^ k)) := by
    have := cut_nats (canL (60 ^ k))
    rwa [hlen] at this
  have hk1 : (k : Int) < ((k + 1 : Nat) : Int) := by omega
  have hk2 : k < k + 1 := by omega
  have hk0 : (0 : Int) ≤ (k : Int) := by omega
  refine gPS (aI @nats_zero <|aI @h0 <|aI @hm <|@e1) ?_
  refine gPS (aI @nats_zero <|aI @h0 <|aI @hm <|aI @e1 <|aI @nats_length <|aI @List.length_replicate.{0} <|aI @hg <|aI @hset <|aI @hk1 <|aI @hk2 <|@hk0) ?_
  refine rPAS hd (aI @Tryd.results108 <|aI @hm <|aI @nats_length <|aI @hlen <|@hcut) ?_
  try exact True.intro
theorem P44e (n d : Int) (hbad : n < 1 ∨ n > 1099511627776 ∨ d < 1 ∨ d > 8) : Ans X 44 [vi n, vi d] (.ret (.tup [.agg [.sl [], vi 0], .agg [.sl [], vi 0], vi 8])) := by
  refine call_of_X (fn := Tryd.f44) 2 Tryd.func44 rfl (by decide +kernel) rfl ?_ ?_ ?_ ?_
  · rfl
  · intro h; exact absurd h (by rw [sr44]; decide)
  · intro v hv; injection hv with hv; subst hv; rfl
  intro s hs hd ho
  have hm : s.m = ⟨.nil, []⟩ := by subst hs; rfl
  have h0 : s.t.get 0 = vi n := by subst hs; rfl
  have h1 : s.t.get 1 = vi d := by subst hs; rfl
  clear hs
  by_cases c1 : n < 1 <;> by_cases c2 : n > 1099511627776 <;> by_cases c3 : d < 1 <;> by_cases c4 : d > 8
  all_goals try (exfalso; omega)
  all_goals
    refine gPA (aI @h0 <|aI @h1 <|aI @hm <|aI @c1 <|aI @c2 <|aI @c3 <|@c4) ?_
    refine cnd (fun h => ?_) (fun h => ?_)
    · refine gPA @hm ?_
      refine rPAS hd (aI @Tryd.results44 <|@hm) ?_
      try exact True.intro
      rfl
    · simp at h
theorem P45e (n d : Int) (hbad : n < 1 ∨ n > 1099511627776 ∨ d < 1 ∨ d > 8) : Ans X 45 [vi n, vi d] (.ret (.tup [.agg [.sl [], vi 0], .agg [.sl [], vi 0], vi 8])) := by
  refine call_of_X (fn := Tryd.f45) 2 Tryd.func45 rfl (by decide +kernel) rfl ?_ ?_ ?_ ?_
  · rfl
  · intro h; exact absurd h (by rw [sr45]; decide)
  · intro v hv; injection hv with hv; subst hv; rfl
  intro s hs hd ho
  have hm : s.m = ⟨.nil, []⟩ := by subst hs; rfl
  have h0 : s.t.get 0 = vi n := by subst hs; rfl
  have h1 : s.t.get 1 = vi d := by subst hs; rfl
  clear hs
  by_cases c1 : n < 1 <;> by_cases c2 : n > 1099511627776 <;> by_cases c3 : d < 1 <;> by_cases c4 : d > 8
  all_goals try (exfalso; omega)
  all_goals
    refine gPA (aI @h0 <|aI @h1 <|aI @hm <|aI @c1 <|aI @c2 <|aI @c3 <|@c4) ?_
    refine cnd (fun h => ?_) (fun h => ?_)
    · refine gPA @hm ?_
      refine rPAS hd (aI @Tryd.results45 <|@hm) ?_
      try exact True.intro
      rfl
    · simp at h
end Go.Proofs.YtpocekfifokndaaDoor
