/- Part 13 of the proof: an evaluator of the program, proved sound against the model, and what the functions of the program compute. No condition but those each theorem states. -/
import Derived.Test.YtpocekfifokndaaDoorG2
import Derived.Test.YtpocekfifokndaaDoorG10
import Derived.Test.YtpocekfifokndaaDoorG9
import Derived.Test.YtpocekfifokndaaDoorG11
import Derived.Test.YtpocekfifokndaaDoorG3
set_option linter.unusedSimpArgs false
set_option linter.unusedVariables false
namespace Go.Proofs.YtpocekfifokndaaDoor
open Go Go.Ev Go.Pl
set_option maxRecDepth 100000
set_option maxHeartbeats 4000000
theorem vz_core (N : Nat) (h : 0 < N) : vz (core N) = 0 := by
  have := (core_mod h).1
  rw [vz, dif_neg (fun e => this e.1)]
theorem core_mul (A n : Nat) : digB (core A * core n) = digB (A * n) := by
  rw [digB_core_mul, Nat.mul_comm A, digB_core_mul, Nat.mul_comm]
theorem vz_mul {A n : Nat} (hA : 0 < A) (hn : 0 < n) : vz (A * n) = vz (core A * core n) + (vz A + vz n) := by
  have e : A * n = core A * core n * 60 ^ (vz A + vz n) := by
    have h1 := core_eq A
    have h2 := core_eq n
    rw [Nat.pow_add]
    conv => lhs; rw [h1, h2]
    grind
  rw [e, vz_shift (Nat.mul_pos (core_mod hA).2 (core_mod hn).2)]
theorem P65 (A n : Nat) (sh : Int) (hA0 : 0 < A) (hA : A < 60 ^ 10) (hn0 : 0 < n) (hn : n ≤ 1000000) (h1 : -1000 < sh) (h2 : sh < 1000) : Ans X 65 [shV A sh, vn n] (.ret (.tup [shV (A * n) sh, .bool true])) := by
  refine call_of_X (fn := Tryd.f65) 2 Tryd.func65 rfl (by decide +kernel) rfl ?_ ?_ ?_ ?_
  · rfl
  · intro h; exact absurd h (by rw [sr65]; decide)
  · intro v hv; injection hv with hv; subst hv; rfl
  intro s hs hd ho
  have hm : s.m = ⟨.nil, []⟩ := by subst hs; rfl
  have h0 : s.t.get 0 = .agg [.sl (nats (digB A)), vi (vz A + sh)] := by subst hs; rfl
  have h1' : s.t.get 1 = vn n := by subst hs; rfl
  clear hs
  have va := digB_val (lt_pow_mono hA (by decide : 10 ≤ 16))
  have vn' := digB_val (N := n) (n := 16) (by omega)
  have q36 := Q36 (N := n) (by omega)
  have hcn : core n ≤ n := Nat.div_le_self _ _
  have hcA : core A ≤ A := Nat.div_le_self _ _
  have hcn0 := (core_mod hn0).2
  have hcA0 := (core_mod hA0).2
  have q43 := Q43 vn' (by rw [num_digB]; omega)
  rw [num_digB] at q43
  obtain ⟨l, hll, q51, hok, hsum⟩ := Q51 va vn' (by rw [num_digB]; omega)
  rw [num_digB, num_digB] at hsum
  have hTlt : core A * core n < 60 ^ 14 := by
    calc core A * core n < 60 ^ 10 * 60 ^ 4 := Nat.mul_lt_mul'' (by omega) (by omega)
      _ = 60 ^ 14 := rfl
  have q55 := Q55 (by have := vn'.len; omega) hok hsum (by have := digB_len hTlt; omega) (lt_pow_mono hTlt (by decide))
  have hTp := Nat.mul_pos hcA0 hcn0
  rw [if_neg (by omega)] at q55
  have hvm := vz_mul hA0 hn0
  rw [core_mul] at q55
  have hvz1 := vz_lt hA0 hA
  have hvz2 := vz_lt (n := 4) hn0 (by omega)
  have hvz3 := vz_lt hTp hTlt
  have hce := core_eq n
  unfold shV
  generalize digB (A * n) = D at *
  rw [hvm]
  clear hvm hTlt hTp hok hsum hll va vn' hcA hcA0
  generalize vz (core A * core n) = w at *
  generalize vz A = u at *
  generalize hv : vz n = v at *
  generalize core n = m at *
  generalize digB A = a at *
  generalize digB n = b at *
  have c1 : ¬ ((m : Int) < 1) := by omega
  refine gPA (aI @h0 <|aI @h1' <|aI @hm <|aI @co36 <|aI @sr36 <|aI @q36.iffx <|aI @co43 <|aI @sr43 <|aI @q43.iffx <|aI @c1 <|@bne_self_eq_false.{0}) ?_
  refine cnd (fun h => ?_) (fun h => ?_)
  · simp at h
  clear h c1 q36 q43
  refine gPA (aI @h0 <|aI @h1' <|@hm) ?_
  refine W_loopg (fun (t : Nat) s => s.dfs = [] ∧ s.m.out.length = 0 ∧ s.t.get 1 = vn n ∧ s.t.get 2 = .ptr ⟨0, 2, 0, 1⟩ 0 0 ∧ s.t.get 4 = .ptr ⟨0, 4, 0, 1⟩ 0 0 ∧ s.t.get 6 = .sl (nats b) ∧ s.t.get 10 = vi ((u : Int) + sh + t) ∧ s.t.get 11 = vn (m * 60 ^ t) ∧
    s.m.row ⟨0, 2, 0, 1⟩ = some ⟨1, 54, false, false, [.agg [.sl (nats a), vi ((u : Int) + sh)]]⟩ ∧ s.m.row ⟨0, 4, 0, 1⟩ = some ⟨1, 54, false, false, [.agg [.rs ⟨0, 4, 1, 1⟩ 0 0 0, vi 0]]⟩ ∧ t ≤ v) (fun t => v - t) 0 ?_ ?_
  · refine ⟨hd, ?_, ?_, ?_, ?_, ?_, ?_, ?_, ?_, ?_, Nat.zero_le _⟩
    all_goals (try refine f0 (aI @h0 <|aI @h1' <|@hm) ?_);all_goals try exact True.intro
    all_goals first | rfl | simp
  clear hd h0 h1' hm ho
  rintro t s ⟨hd, ho, h1', h2', h4, h6, h10, h11, r2, r4, ht⟩
  by_cases c : m * 60 ^ t < n
  · have htv : t < v := by
      rcases Nat.lt_or_ge t v with h | h
      · exact h
      · obtain rfl : t = v := by omega
        omega
    have hle : m * 60 ^ (t + 1) ≤ n := by
      have : 60 ^ (t + 1) ≤ 60 ^ v := Nat.pow_le_pow_right (by decide) htv
      have := Nat.mul_le_mul_left m this
      omega
    have hpe : m * 60 ^ (t + 1) = m * 60 ^ t * 60 := by rw [Nat.pow_succ, Nat.mul_assoc]
    generalize hM2 : m * 60 ^ (t + 1) = M2 at hle hpe
    generalize m * 60 ^ t = M1 at *
    have e2 : ((M1 : Nat) : Int) < ((n : Nat) : Int) := by omega
    have e3 : V.int .i64 (wr .i64 ((M1 : Int) * 60)) = vn M2 := by rw [cast_mul60, wr_nat (by omega), hpe]
    have e4 : V.int .i64 (wr .i64 ((u : Int) + sh + t + 1)) = vi ((u : Int) + sh + ((t + 1 : Nat) : Int)) := by rw [wr_i64 (by omega) (by omega)]; congr 1; omega
    clear hce hpe hle
    refine gP (aI @h1' <|aI @h11 <|@e2) ?_
    refine cnd (fun h => ?_) (fun h => ?_)
    · refine gP (aI @h10 <|aI @h11 <|aI @e3 <|@e4) ?_
      refine ⟨t + 1, ⟨hd, ?_, ?_, ?_, ?_, ?_, ?_, ?_, ?_, ?_, htv⟩, by omega⟩
      all_goals (try refine f0 (aI @ho <|aI @h1' <|aI @h2' <|aI @h4 <|aI @h6 <|aI @r2 <|aI @r4 <|@hM2) ?_);all_goals try exact True.intro
    · simp at h
  · have htv : t = v := by
      rcases Nat.lt_or_ge t v with h | h
      · exfalso
        have h1 : 60 ^ t * 60 ≤ 60 ^ v := by rw [← Nat.pow_succ]; exact Nat.pow_le_pow_right (by decide) h
        have h2 := Nat.mul_le_mul_left m h1
        have h3 := pow_pos t
        have h4 : 0 < m * 60 ^ t := Nat.mul_pos hcn0 h3
        rw [← Nat.mul_assoc] at h2
        omega
      · omega
    subst htv
    have e2 : ¬ ((m * 60 ^ t : Nat) : Int) < ((n : Nat) : Int) := by omega
    have e5 : V.int .i64 (wr .i64 ((w : Int) + ((u : Int) + sh + t))) = vi (((w + (u + t) : Nat) : Int) + sh) := by rw [wr_i64 (by omega) (by omega)]; congr 1; omega
    clear c hce
    refine gP (aI @h1' <|aI @h11 <|@e2) ?_
    refine cnd (fun h => ?_) (fun h => ?_)
    · simp at h
    refine gPAS (aI @h2' <|aI @h4 <|aI @h6 <|aI @r2 <|aI @r4 <|aI @ho <|aI @co51 <|aI @sr51 <|aI @q51.iffx <|aI @co55 <|aI @sr55 <|aI @q55.iffx <|@bne_self_eq_false.{0}) ?_
    refine cnd (fun h => ?_) (fun h => ?_)
    · simp at h
    refine gPAS (aI @h4 <|aI @h10 <|aI @r4 <|aI @ho <|@e5) ?_
    refine rPA hd (aI @Tryd.results65 <|aI @h4 <|aI @r4 <|@ho) ?_
    try exact True.intro
end Go.Proofs.YtpocekfifokndaaDoor
namespace Go.Proofs.YtpocekfifokndaaDoor
open Go Go.Ev Go.Pl
set_option maxRecDepth 100000
set_option maxHeartbeats 4000000
def dP (N : Nat) (sh : Int) : List Int × Int := (zi (digB N), (vz N : Int) + sh)
theorem dP_plc (N : Nat) (sh : Int) : shV N sh = plcV (dP N sh) := by rw [shV, plcV, dP, nats_zi]
theorem chk_dP {N : Nat} {sh : Int} (h0 : 0 < N) (hN : N < 60 ^ 16) (h1 : -64 ≤ (vz N : Int) + sh) (h2 : (vz N : Int) + sh ≤ 64) : chkP (zi (digB N)) ((vz N : Int) + sh) = 0 := by
  have hv := digB_val hN
  have hl : (zi (digB N)).length ≠ 0 := by
    have := digB_pos h0
    simp [zi]; intro e; rw [e] at this; simp at this
  rw [chkP, if_neg (fun e => e hv.chk), if_neg (by omega), if_neg (fun e => hl e.1)]
theorem val_dP {N : Nat} {sh : Int} (t : Nat) (ht : (t : Int) = sh + 64) : valN (dP N sh) = N * 60 ^ t := by
  unfold valN dP
  dsimp only
  rw [numI_zi, num_digB]
  have e := core_eq N
  have e2 : ((vz N : Int) + sh + 64).toNat = vz N + t := by omega
  rw [e2, Nat.pow_add, ← Nat.mul_assoc, ← e]
theorem Q57 {N M : Nat} {s1 s2 : Int} (hN0 : 0 < N) (hN : N < 60 ^ 16) (a1 : -64 ≤ (vz N : Int) + s1) (a2 : (vz N : Int) + s1 ≤ 64) (hM0 : 0 < M) (hM : M < 60 ^ 16) (b1 : -64 ≤ (vz M : Int) + s2) (b2 : (vz M : Int) + s2 ≤ 64)
    (t1 t2 : Nat) (h1 : (t1 : Int) = s1 + 64) (h2 : (t2 : Int) = s2 + 64) :
    Ans X 57 [shV N s1, shV M s2] (.ret (.tup [vi (cmpN (N * 60 ^ t1) (M * 60 ^ t2)), vi 0])) := by
  have q := P57 (dP N s1) (dP M s2)
  rw [← dP_plc, ← dP_plc] at q
  have c1 : chkP (dP N s1).1 (dP N s1).2 = 0 := chk_dP hN0 hN a1 a2
  have c2 : chkP (dP M s2).1 (dP M s2).2 = 0 := chk_dP hM0 hM b1 b2
  rw [cmpS, if_neg (fun e => e c1), if_neg (fun e => e c2), val_dP t1 h1, val_dP t2 h2] at q
  exact q
theorem cmpN_eq (N : Nat) : cmpN N N = 0 := by rw [cmpN, if_neg (Nat.lt_irrefl _), if_neg (Nat.lt_irrefl _)]
theorem cmpN_lt {N M : Nat} (h : N < M) : cmpN N M = -1 := by rw [cmpN, if_pos h]
theorem vz_one : vz 1 = 0 := by rw [vz, dif_neg (by decide)]
theorem shV_one : shV 1 0 = .agg [.sl [vi 1], vi 0] := by rw [shV, g1, vz_one]; rfl
theorem near_lt {n B : Nat} (hn : 0 < n) (hB : 0 < B) : ∀ f k, (60 ^ k / n < B * 60) → 60 ^ nearF n B f k / n < B * 60
  | 0, k, h => h
  | f + 1, k, h => by
    rw [nearF]
    split
    · rename_i h1
      refine near_lt hn hB f (k + 1) ?_
      obtain ⟨s1, _⟩ := near_step n k hn
      rw [s1]
      have h2 : 60 ^ k % n * 60 / n < 60 := Nat.div_lt_of_lt_mul (by have := Nat.mod_lt (60 ^ k) hn; omega)
      omega
    · exact h
theorem near_ge {n B : Nat} (hn0 : 0 < n) (hn : n ≤ 1099511627776) (hB : B ≤ 60 ^ 7) : ∀ f k, f + k = 16 → B ≤ 60 ^ nearF n B f k / n
  | 0, k, h => by
    obtain rfl : k = 16 := by omega
    have e3 : 60 ^ 16 / 1099511627776 ≤ 60 ^ 16 / n := Nat.div_le_div_left hn hn0
    have e4 : (60 : Nat) ^ 7 ≤ 60 ^ 16 / 1099511627776 := by decide
    exact Nat.le_trans hB (Nat.le_trans e4 e3)
  | f + 1, k, h => by
    rw [nearF]
    split
    · exact near_ge hn0 hn hB f (k + 1) (by omega)
    · omega
theorem near_le (n B : Nat) : ∀ f k, nearF n B f k ≤ f + k
  | 0, k => by rw [nearF]; omega
  | f + 1, k => by
    rw [nearF]
    split
    · have := near_le n B f (k + 1); omega
    · omega
theorem P17 (n0 d0 : Int) : Ans X 17 [vi n0, vi d0] (.ret (.bool true)) := by
  refine call_of_X (fn := Tryd.f17) 2 Tryd.func17 rfl (by decide +kernel) rfl ?_ ?_ ?_ ?_
  · rfl
  · exact fun _ => rfl
  · intro v hv; injection hv with hv; subst hv; rfl
  intro s hs hd ho
  have h0 : s.t.get 0 = vi n0 := by subst hs; rfl
  have h1 : s.t.get 1 = vi d0 := by subst hs; rfl
  clear hs
  have q33n := P33 n0 1000000 (by decide)
  have q33d := P33 d0 8 (by decide)
  obtain ⟨n, hne, hnb⟩ : ∃ n : Nat, 1 + bringI n0 1000000 = (n : Int) ∧ 0 < n ∧ n ≤ 1000000 := by
    have e : bringI n0 1000000 = n0 % 1000000 := by rw [bringI, if_neg (by decide)]
    have h1 := Int.emod_nonneg n0 (by decide : (1000000 : Int) ≠ 0)
    have h2 := Int.emod_lt_of_pos n0 (by decide : (0 : Int) < 1000000)
    rw [e]
    exact ⟨(1 + n0 % 1000000).toNat, by omega, by omega⟩
  obtain ⟨d, hde, hdb⟩ : ∃ d : Nat, 1 + bringI d0 8 = (d : Int) ∧ 0 < d ∧ d ≤ 8 := by
    have e : bringI d0 8 = d0 % 8 := by rw [bringI, if_neg (by decide)]
    have h1 := Int.emod_nonneg d0 (by decide : (8 : Int) ≠ 0)
    have h2 := Int.emod_lt_of_pos d0 (by decide : (0 : Int) < 8)
    rw [e]
    exact ⟨(1 + d0 % 8).toNat, by omega, by omega⟩
  have en : V.int .i64 (wr .i64 (1 + bringI n0 1000000)) = vn n := by rw [hne, wr_nat (by omega)]
  have ed : V.int .i64 (wr .i64 (1 + bringI d0 8)) = vn d := by rw [hde, wr_nat (by omega)]
  clear hne hde
  obtain ⟨hn1, hn2⟩ := hnb
  obtain ⟨hd1, hd2⟩ := hdb
  have q44 := P44 n d hn1 (by omega) hd1 hd2
  have hBp : 0 < 60 ^ (d - 1) := pow_pos _
  have hB7 : 60 ^ (d - 1) ≤ 60 ^ 7 := Nat.pow_le_pow_right (by decide) (by omega)
  have hB60 : 60 ^ (d - 1) * 60 = 60 ^ d := by rw [← Nat.pow_succ]; congr 1; omega
  have hK16 : nearK n (60 ^ (d - 1)) ≤ 16 := near_le n _ 16 0
  have hmge : 60 ^ (d - 1) ≤ 60 ^ nearK n (60 ^ (d - 1)) / n := near_ge hn1 (by omega) hB7 16 0 rfl
  have hmlt : 60 ^ nearK n (60 ^ (d - 1)) / n < 60 ^ d := by
    rw [← hB60]
    refine near_lt hn1 hBp 16 0 ?_
    have h1 : 60 ^ 0 / n ≤ 60 ^ 0 := Nat.div_le_self _ _
    have h2 : (60 : Nat) ^ 0 = 1 := rfl
    omega
  generalize nearK n (60 ^ (d - 1)) = K at *
  have hd8 : 60 ^ d ≤ 60 ^ 8 := Nat.pow_le_pow_right (by decide) hd2
  have hlen := digB_len hmlt
  have hdm : 60 ^ K = 60 ^ K / n * n + 60 ^ K % n := by rw [Nat.mul_comm]; exact (Nat.div_add_mod _ _).symm
  have hrn : 60 ^ K % n < n := Nat.mod_lt _ hn1
  have hm0 : 0 < 60 ^ K / n := by omega
  clear hB60 hB7 hBp hmge
  generalize hmE : 60 ^ K / n = m at *
  generalize hrE : 60 ^ K % n = r at *
  obtain ⟨m2, hm2⟩ : ∃ m2, m2 = m + (if 0 < r then 1 else 0) := ⟨_, rfl⟩
  rw [← hm2] at q44
  have hm2b : 0 < m2 ∧ m2 ≤ 60 ^ 8 := by split at hm2 <;> omega
  obtain ⟨t, ht⟩ : ∃ t : Nat, (t : Int) = -(K : Int) + 64 := ⟨64 - K, by omega⟩
  have v1 := vz_lt (n := 9) hm0 (by omega)
  have v2 := vz_lt (n := 9) hm2b.1 (by omega)
  have p1 : 0 < m * n := Nat.mul_pos hm0 hn1
  have p2 : 0 < m2 * n := Nat.mul_pos hm2b.1 hn1
  have l1 : m * n < 60 ^ 13 := by
    calc m * n < 60 ^ 9 * 60 ^ 4 := Nat.mul_lt_mul'' (by omega) (by omega)
      _ = 60 ^ 13 := rfl
  have l2 : m2 * n < 60 ^ 13 := by
    calc m2 * n < 60 ^ 9 * 60 ^ 4 := Nat.mul_lt_mul'' (by omega) (by omega)
      _ = 60 ^ 13 := rfl
  have w1 := vz_lt p1 l1
  have w2 := vz_lt p2 l2
  have qc1 : Ans X 59 [shV m (-(K : Int))] (.ret (vi 0)) := by
    have q := P59 (zi (digB m)) ((vz m : Int) + -(K : Int))
    rw [chk_dP hm0 (by omega) (by omega) (by omega), ← nats_zi] at q
    exact q
  have qc2 : Ans X 59 [shV m2 (-(K : Int))] (.ret (vi 0)) := by
    have q := P59 (zi (digB m2)) ((vz m2 : Int) + -(K : Int))
    rw [chk_dP hm2b.1 (by omega) (by omega) (by omega), ← nats_zi] at q
    exact q
  have qt1 := P65 m n (-(K : Int)) hm0 (by omega) hn1 hn2 (by omega) (by omega)
  have qt2 := P65 m2 n (-(K : Int)) hm2b.1 (by omega) hn1 hn2 (by omega) (by omega)
  have qa := Q57 (N := m * n) (M := 1) (s1 := -(K : Int)) (s2 := 0) p1 (by omega) (by omega) (by omega) (by decide) (by decide) (by rw [vz_one]; decide) (by rw [vz_one]; decide) t 64 ht rfl
  have qb := Q57 (N := 1) (M := m2 * n) (s1 := 0) (s2 := -(K : Int)) (by decide) (by decide) (by rw [vz_one]; decide) (by rw [vz_one]; decide) p2 (by omega) (by omega) (by omega) 64 t rfl ht
  have qcc := Q57 (N := m) (M := m2) (s1 := -(K : Int)) (s2 := -(K : Int)) hm0 (by omega) (by omega) (by omega) hm2b.1 (by omega) (by omega) (by omega) t t ht ht
  have e64 : 1 * 60 ^ 64 = 60 ^ K * 60 ^ t := by rw [← Nat.pow_add, Nat.one_mul]; congr 1; omega
  rw [e64, cmpN_mul, shV_one] at qa qb
  rw [cmpN_mul] at qcc
  obtain ⟨z, hz, hza, hzb, hzc⟩ : ∃ z : Int, (z = 0 ∨ z = -1) ∧ cmpN (m * n) (60 ^ K) = z ∧ cmpN (60 ^ K) (m2 * n) = z ∧ cmpN m m2 = z := by
    by_cases hr : r = 0
    · have e1 : m2 = m := by rw [hm2, if_neg (by omega), Nat.add_zero]
      have e2 : m * n = 60 ^ K := by omega
      refine ⟨0, .inl rfl, ?_, ?_, ?_⟩
      · rw [e2]; exact cmpN_eq _
      · rw [e1, e2]; exact cmpN_eq _
      · rw [e1]; exact cmpN_eq _
    · have e1 : m2 = m + 1 := by rw [hm2, if_pos (by omega)]
      refine ⟨-1, .inr rfl, cmpN_lt (by omega), cmpN_lt ?_, cmpN_lt (by omega)⟩
      rw [e1, Nat.add_mul, Nat.one_mul]; omega
  rw [hza] at qa
  rw [hzb] at qb
  rw [hzc] at qcc
  have hlen' : ¬ (((digB m).length : Int) > (d : Int)) := by omega
  clear hza hzb hzc e64 w1 w2 l1 l2 p1 p2 v1 v2 ht hm2b hm2 hmE hrE hdm hrn hm0 hlen hd8 hmlt hK16 hn1 hn2 hd1 hd2
  unfold shV at q44 qc1 qc2 qt1 qt2 qa qb qcc
  refine gPAS (aI @h0 <|aI @h1 <|aI @ho <|aI @en <|aI @ed <|aI @co33 <|aI @sr33 <|aI @q33n.iffx <|aI @q33d.iffx <|aI @co44 <|aI @sr44 <|aI @q44.iffx <|aI @co59 <|aI @sr59 <|aI @qc1.iffx <|aI @qc2.iffx <|aI @nats_length <|aI @hlen' <|@bne_self_eq_false.{0}) ?_
  refine cnd (fun h => ?_) (fun h => ?_)
  · simp at h
  clear h
  rcases hz with rfl | rfl
  all_goals
    refine gPAS (aI @ho <|aI @co65 <|aI @sr65 <|aI @qt1.iffx <|aI @qt2.iffx <|@Bool.not_true) ?_
    refine cnd (fun h => ?_) (fun h => ?_)
    · simp at h
    repeat (first
      | with_reducible first | refine W_seq ?_ | refine W_skip ?_ | refine W_label ?_ | refine W_ret ?_ | refine W_exit ?_ | refine W_block ?_ | refine thenI ?_ | refine thenRet ?_ | refine thenExit ?_ | refine blockRet ?_ | refine blockI ?_ | refine blockExit ?_ | refine blockExitNe rfl ?_
      | (with_reducible refine W_region_k ?_
         intro K hK
         simp (maxSteps := 2000000) (disch := omega) only [SA, ofValue, ofCell, bin, intBin, un, idx, Go.Ev.builtin, calleeOf, V.isNilS, V.depthOk, depth1, V.ok1, V.isAgg, V.cells, isConst, Nat.reduceBEq, Nat.reduceEqDiff, ↓reduceIte, Nat.reduceLeDiff, Nat.reduceAdd, Nat.reduceMul, Nat.reduceSub, Nat.reduceLT, Int.reduceAdd, Int.reduceSub, Int.reduceMul, Int.reduceLT, Int.reduceLE, Int.reduceToNat, Int.reduceNeg, reduceIte, reduceCtorEq, SPx, SAx, SSx, appendTo, elemsOf, ho, co57, sr57, qa.iff, qb.iff, qcc.iff, eqT4, eqOkb, beq_self_eq_true, co26, sr26, P26.iff, Int.reduceLE, Int.reduceEq]
         refine hK _ _ ?_
         clear hK K)
    )
    refine rP hd @Tryd.results17 ?_
    try exact True.intro
end Go.Proofs.YtpocekfifokndaaDoor
