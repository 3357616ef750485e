/- Part 14 of the proof: an evaluator of the program, proved sound against the model, and what the functions of the program compute. No condition but those each theorem states. -/
import Derived.Test.YtpocekfifokndaaDoorG2
import Derived.Test.YtpocekfifokndaaDoorG13
import Derived.Test.YtpocekfifokndaaDoorG12
set_option linter.unusedSimpArgs false
set_option linter.unusedVariables false
namespace Go.Proofs.YtpocekfifokndaaDoor
open Go Go.Ev Go.Pl
set_option maxRecDepth 100000
set_option maxHeartbeats 4000000
theorem rdn_spec {B : Nat} (hB : 60 ≤ B) : ∀ f x k, x < 3600 ^ f → 0 < x → rt (rdn B f x k).1 < B ∧ 0 < (rdn B f x k).1 ∧ ∃ i, (rdn B f x k).2 = k + i ∧ (rdn B f x k).1 = x / 3600 ^ i ∧ (i = 0 ∨ B * B ≤ (rdn B f x k).1 * 3600 + 3599)
  | 0, x, k, h, h0 => by rw [Nat.pow_zero] at h; omega
  | f + 1, x, k, h, h0 => by
    rw [rdn]
    split
    · rename_i c
      have h1 := sq_le c
      have h2 := (rt_spec x).1
      have h3 := sq_le hB
      have hd : 0 < x / 3600 := Nat.div_pos (by omega) (by decide)
      have hlt : x / 3600 < 3600 ^ f := by
        rw [Nat.pow_succ] at h
        exact (Nat.div_lt_iff_lt_mul (by decide)).2 h
      obtain ⟨a, b, i, c1, c2, c3⟩ := rdn_spec hB f (x / 3600) (k + 1) hlt hd
      refine ⟨a, b, i + 1, by omega, ?_, .inr ?_⟩
      · rw [c2, Nat.div_div_eq_div_mul, Nat.pow_succ, Nat.mul_comm]
      · rcases c3 with rfl | c3
        · rw [c2, Nat.pow_zero, Nat.div_one]; omega
        · exact c3
    · rename_i c
      exact ⟨by show rt x < B; omega, h0, 0, rfl, by rw [Nat.pow_zero, Nat.div_one], .inl rfl⟩
theorem rup_spec {B : Nat} : ∀ f x (k : Int), 0 < x → B * B ≤ x * 3600 ^ f → rt x < 60 * B → B ≤ rt (rup B f x k).1 ∧ rt (rup B f x k).1 < 60 * B ∧ ∃ j : Nat, (rup B f x k).2 = k - j ∧ (rup B f x k).1 = x * 3600 ^ j ∧ (B * B ≤ x → j = 0)
  | 0, x, k, h0, h, hl => by
    rw [Nat.pow_zero, Nat.mul_one] at h
    refine ⟨?_, hl, 0, by simp [rup], by simp [rup], fun _ => rfl⟩
    show B ≤ rt x
    rcases Nat.lt_or_ge (rt x) B with h' | h'
    · have := rt_lt_iff.1 h'; omega
    · exact h'
  | f + 1, x, k, h0, h, hl => by
    rw [rup]
    split
    · rename_i c
      have hx := rt_lt_iff.1 c
      have hr : rt (x * 3600) < 60 * B := by
        refine rt_lt ?_
        have : 60 * B * (60 * B) = B * B * 3600 := by grind
        omega
      obtain ⟨a, b, j, c1, c2, c3⟩ := rup_spec f (x * 3600) (k - 1) (by omega) (by rw [Nat.pow_succ] at h; rw [Nat.mul_assoc, Nat.mul_comm 3600]; exact h) hr
      refine ⟨a, b, j + 1, by rw [c1]; omega, by rw [c2, Nat.pow_succ, Nat.mul_assoc, Nat.mul_comm 3600], fun e => by omega⟩
    · rename_i c
      exact ⟨by show B ≤ rt x; omega, hl, 0, by simp, by simp, fun _ => rfl⟩
theorem rootX_spec {n d : Nat} (hn0 : 0 < n) (hn : n ≤ 1099511627776) (hd0 : 0 < d) (hd5 : d ≤ 5) :
    60 ^ (d - 1) ≤ rt (rootX n d).1 ∧ rt (rootX n d).1 < 60 ^ d ∧ ((∃ i : Nat, i ≤ 8 ∧ (rootX n d).2 = (i : Int) ∧ (rootX n d).1 = n / 3600 ^ i) ∨ (∃ j : Nat, j ≤ 8 ∧ (rootX n d).2 = -(j : Int) ∧ (rootX n d).1 = n * 3600 ^ j)) := by
  have hB1 : 60 ^ (d - 1) ≤ 60 ^ 4 := Nat.pow_le_pow_right (by decide) (by omega)
  have hB0 : 60 ≤ 60 ^ d := by
    calc 60 = 60 ^ 1 := rfl
      _ ≤ 60 ^ d := Nat.pow_le_pow_right (by decide) hd0
  have hBB : 60 ^ d = 60 * 60 ^ (d - 1) := by
    rw [Nat.mul_comm, ← Nat.pow_succ]; congr 1; omega
  obtain ⟨a, b, i, c1, c2, c3⟩ := rdn_spec hB0 8 n 0 (by omega) hn0
  unfold rootX
  generalize rdn (60 ^ d) 8 n 0 = p at *
  obtain ⟨x, k⟩ := p
  dsimp only at a b c1 c2 c3 ⊢
  rw [hBB] at a c3 ⊢
  generalize 60 ^ (d - 1) = B at *
  have hsq := sq_le hB1
  obtain ⟨a', b', j, d1, d2, d3⟩ := rup_spec (B := B) 8 x (k : Int) b (by
    have : 3600 ^ 8 ≤ x * 3600 ^ 8 := Nat.le_mul_of_pos_left _ b
    exact Nat.le_trans hsq (Nat.le_trans (by decide) this)) a
  refine ⟨a', b', ?_⟩
  have hi8 : i ≤ 8 := by
    rcases Nat.lt_or_ge 8 i with h | h
    · exfalso
      have h1 : 3600 ^ 9 ≤ 3600 ^ i := Nat.pow_le_pow_right (by decide) h
      have : n / 3600 ^ i = 0 := Nat.div_eq_of_lt (by omega)
      omega
    · exact h
  rcases c3 with rfl | c3
  · right
    have hj8 : j ≤ 8 := by
      rcases Nat.lt_or_ge 8 j with h | h
      · exfalso
        have h1 : 3600 ^ 9 ≤ 3600 ^ j := Nat.pow_le_pow_right (by decide) h
        have h2 : 3600 ^ j ≤ x * 3600 ^ j := Nat.le_mul_of_pos_left _ b
        have h3 := rt_lt_iff.1 b'
        rw [d2] at h3
        have h4 : 60 * B * (60 * B) ≤ 60 ^ 5 * 60 ^ 5 := sq_le (by omega)
        omega
      · exact h
    rw [Nat.pow_zero, Nat.div_one] at c2
    exact ⟨j, hj8, by rw [d1, c1]; omega, by rw [d2, c2]⟩
  · left
    have e : 60 * B * (60 * B) = B * B * 3600 := by grind
    have hj := d3 (by omega)
    subst hj
    exact ⟨i, hi8, by rw [d1, c1]; omega, by rw [d2, Nat.pow_zero, Nat.mul_one, c2]⟩
theorem rootX_cmp {n d : Nat} (hn0 : 0 < n) (hn : n ≤ 1099511627776) (hd0 : 0 < d) (hd5 : d ≤ 5) : ∃ t : Nat, (t : Int) = 2 * (rootX n d).2 + 64 ∧ t ≤ 80 ∧ -8 ≤ (rootX n d).2 ∧ (rootX n d).2 ≤ 8 ∧
    rt (rootX n d).1 * rt (rootX n d).1 * 60 ^ t ≤ n * 60 ^ 64 ∧ n * 60 ^ 64 < (rt (rootX n d).1 + 1) * (rt (rootX n d).1 + 1) * 60 ^ t := by
  obtain ⟨_, _, h⟩ := rootX_spec hn0 hn hd0 hd5
  obtain ⟨r1, r2⟩ := rt_spec (rootX n d).1
  generalize rt (rootX n d).1 = r at *
  generalize rootX n d = p at *
  obtain ⟨x, k⟩ := p
  dsimp only at h r1 r2 ⊢
  have e3600 : ∀ i, (3600 : Nat) ^ i = 60 ^ (2 * i) := fun i => by rw [show (3600 : Nat) = 60 ^ 2 from rfl, ← Nat.pow_mul]
  rcases h with ⟨i, hi, rfl, rfl⟩ | ⟨j, hj, rfl, rfl⟩
  · refine ⟨2 * i + 64, by omega, by omega, by omega, by omega, ?_, ?_⟩
    · rw [Nat.pow_add, ← Nat.mul_assoc, ← e3600]
      refine Nat.mul_le_mul_right _ ?_
      exact Nat.le_trans (Nat.mul_le_mul_right _ r1) (Nat.div_mul_le_self n _)
    · rw [Nat.pow_add, ← Nat.mul_assoc, ← e3600]
      refine Nat.mul_lt_mul_of_pos_right ?_ (pow_pos 64)
      have h1 : n < (n / 3600 ^ i + 1) * 3600 ^ i := by
        have h2 := Nat.div_add_mod n (3600 ^ i)
        have h3 := Nat.mod_lt n (show 0 < 3600 ^ i from Nat.pow_pos (by decide))
        rw [Nat.add_mul, Nat.one_mul, Nat.mul_comm (n / 3600 ^ i)]
        omega
      exact Nat.lt_of_lt_of_le h1 (Nat.mul_le_mul_right _ r2)
  · refine ⟨64 - 2 * j, by omega, by omega, by omega, by omega, ?_, ?_⟩
    · have e : (60 : Nat) ^ 64 = 60 ^ (2 * j) * 60 ^ (64 - 2 * j) := by rw [← Nat.pow_add]; congr 1; omega
      rw [e, ← Nat.mul_assoc, ← e3600]
      exact Nat.mul_le_mul_right _ r1
    · have e : (60 : Nat) ^ 64 = 60 ^ (2 * j) * 60 ^ (64 - 2 * j) := by rw [← Nat.pow_add]; congr 1; omega
      rw [e, ← Nat.mul_assoc, ← e3600]
      exact Nat.mul_lt_mul_of_pos_right r2 (pow_pos _)
theorem P66 (r : Nat) (k : Int) (hr0 : 0 < r) (hr : r < 60 ^ 6) (h1 : -100 < k) (h2 : k < 100) : Ans X 66 [shV r k] (.ret (.tup [shV (r * r) (2 * k), .bool true])) := by
  refine call_of_X (fn := Tryd.f66) 1 Tryd.func66 rfl (by decide +kernel) rfl ?_ ?_ ?_ ?_
  · rfl
  · intro h; exact absurd h (by rw [sr66]; decide)
  · intro v hv; injection hv with hv; subst hv; rfl
  intro s hs hd ho
  have hm : s.m = ⟨.nil, []⟩ := by subst hs; rfl
  have h0 : s.t.get 0 = .agg [.sl (nats (digB r)), vi (vz r + k)] := by subst hs; rfl
  clear hs
  have va := digB_val (lt_pow_mono hr (by decide : 6 ≤ 16))
  have hcr : core r ≤ r := Nat.div_le_self _ _
  have hcr0 := (core_mod hr0).2
  obtain ⟨l, hll, q51, hok, hsum⟩ := Q51 va va (by rw [num_digB]; omega)
  rw [num_digB] at hsum
  have hTlt : core r * core r < 60 ^ 12 := by
    calc core r * core r < 60 ^ 6 * 60 ^ 6 := Nat.mul_lt_mul'' (by omega) (by omega)
      _ = 60 ^ 12 := rfl
  have q55 := Q55 (by have := va.len; omega) hok hsum (by have := digB_len hTlt; omega) (lt_pow_mono hTlt (by decide))
  have hTp := Nat.mul_pos hcr0 hcr0
  rw [if_neg (by omega), core_mul] at q55
  have hvm := vz_mul hr0 hr0
  have hvz1 := vz_lt hr0 hr
  have hvz3 := vz_lt hTp hTlt
  unfold shV
  rw [hvm]
  clear hvm hTlt hTp hok hsum hll va hcr hcr0
  generalize digB (r * r) = D at *
  generalize vz (core r * core r) = w at *
  generalize vz r = u at *
  generalize digB r = a at *
  have e5 : V.int .i64 (wr .i64 ((w : Int) + wr .i64 (2 * ((u : Int) + k)))) = vi (((w + (u + u) : Nat) : Int) + 2 * k) := by
    rw [wr_i64 (n := 2 * ((u : Int) + k)) (by omega) (by omega), wr_i64 (by omega) (by omega)]; congr 1; omega
  refine gPAS (aI @h0 <|aI @hm <|aI @co51 <|aI @sr51 <|aI @q51.iffx <|aI @co55 <|aI @sr55 <|aI @q55.iffx <|aI @e5 <|@beq_self_eq_true.{0}) ?_
  refine rPAS hd (aI @Tryd.results66 <|@hm) ?_
  try exact True.intro
theorem Q55b {l : List (List Int × Int)} {T t : Nat} {sh : Int} (hl : l.length ≤ 64) (hok : ∀ p ∈ l, chkP p.1 p.2 = 0) (hs : sumN l = T * 60 ^ t) (ht : (t : Int) = sh + 64) (hT0 : 0 < T) (hT : T < 60 ^ 16) (h2 : (vz T : Int) + sh ≤ 64) :
    Ans X 55 [.sl (plcsV l)] (.ret (.tup [shV T sh, vi 0])) := by
  have q := P55 l
  rw [sumS, if_neg (by omega), if_neg (fun e => e (ferr_zero hok)), hs] at q
  have hne : T * 60 ^ t ≠ 0 := Nat.mul_ne_zero (by omega) (Nat.pos_iff_ne_zero.1 (pow_pos t))
  have hg : goodP (T * 60 ^ t) (-64) := by
    refine Or.inr ⟨?_, ?_, ?_⟩
    · rw [digB_shift]; exact digB_len hT
    · rw [vz_shift hT0]; omega
    · rw [vz_shift hT0]; omega
  rw [if_pos hg, if_neg hne, digB_shift, vz_shift hT0] at q
  have e : (-64 : Int) + ((vz T + t : Nat) : Int) = (vz T : Int) + sh := by omega
  rw [e] at q
  exact q
end Go.Proofs.YtpocekfifokndaaDoor
namespace Go.Proofs.YtpocekfifokndaaDoor
open Go Go.Ev Go.Pl
set_option maxRecDepth 100000
set_option maxHeartbeats 4000000
theorem P18 (n0 d0 : Int) : Ans X 18 [vi n0, vi d0] (.ret (.bool true)) := by
  refine call_of_X (fn := Tryd.f18) 2 Tryd.func18 rfl (by decide +kernel) rfl ?_ ?_ ?_ ?_
  · rfl
  · exact fun _ => rfl
  · intro v hv; injection hv with hv; subst hv; rfl
  intro s hs hd ho
  have h0 : s.t.get 0 = vi n0 := by subst hs; rfl
  have h1 : s.t.get 1 = vi d0 := by subst hs; rfl
  clear hs
  have q33n := P33 n0 1099511627776 (by decide)
  have q33d := P33 d0 4 (by decide)
  obtain ⟨n, hne, hn1, hn2⟩ : ∃ n : Nat, 1 + bringI n0 1099511627776 = (n : Int) ∧ 0 < n ∧ n ≤ 1099511627776 := by
    have e : bringI n0 1099511627776 = n0 % 1099511627776 := by rw [bringI, if_neg (by decide)]
    have h1 := Int.emod_nonneg n0 (by decide : (1099511627776 : Int) ≠ 0)
    have h2 := Int.emod_lt_of_pos n0 (by decide : (0 : Int) < 1099511627776)
    rw [e]
    exact ⟨(1 + n0 % 1099511627776).toNat, by omega, by omega, by omega⟩
  obtain ⟨d, hde, hd1, hd2⟩ : ∃ d : Nat, 1 + bringI d0 4 = (d : Int) ∧ 0 < d ∧ d ≤ 4 := by
    have e : bringI d0 4 = d0 % 4 := by rw [bringI, if_neg (by decide)]
    have h1 := Int.emod_nonneg d0 (by decide : (4 : Int) ≠ 0)
    have h2 := Int.emod_lt_of_pos d0 (by decide : (0 : Int) < 4)
    rw [e]
    exact ⟨(1 + d0 % 4).toNat, by omega, by omega, by omega⟩
  have en : V.int .i64 (wr .i64 (1 + bringI n0 1099511627776)) = vn n := by rw [hne, wr_nat (by omega)]
  have ed : V.int .i64 (wr .i64 (1 + bringI d0 4)) = vn d := by rw [hde, wr_nat (by omega)]
  clear hne hde
  have q46 := P46 n d hn1 hn2 hd1 (by omega)
  obtain ⟨hr1, hr2, _⟩ := rootX_spec hn1 hn2 hd1 (by omega)
  obtain ⟨t, ht, ht80, hk1, hk2, hcm1, hcm2⟩ := rootX_cmp (d := d) hn1 hn2 hd1 (by omega)
  generalize (rootX n d).2 = k at *
  generalize rt (rootX n d).1 = r at *
  have hd4 : 60 ^ d ≤ 60 ^ 4 := Nat.pow_le_pow_right (by decide) hd2
  have hr0 : 0 < r := Nat.lt_of_lt_of_le (pow_pos _) hr1
  have hcl : (canL r).length = d := by
    have h1 := (canL_length_le (N := r) (n := d)).2 hr2
    have h2 := canL_length_le (N := r) (n := d - 1)
    omega
  have hlen := canL_len_core r
  rw [hcl] at hlen
  have hr4 : r < 60 ^ 4 := by omega
  have vr := vz_lt hr0 hr4
  have hDp := digB_pos hr0
  have cl1 : ¬ (((digB r).length : Int) < 1) := by omega
  have cl2 : ¬ (((digB r).length : Int) > (d : Int)) := by omega
  have qc : Ans X 59 [shV r k] (.ret (vi 0)) := by
    have q := P59 (zi (digB r)) ((vz r : Int) + k)
    rw [chk_dP hr0 (by omega) (by omega) (by omega), ← nats_zi] at q
    exact q
  have elast : V.int .i64 (wr .i64 (((vz r : Int) + k) - wr .i64 ((d : Int) - ((digB r).length : Int)))) = vi k := by
    rw [wr_i64 (n := (d : Int) - ((digB r).length : Int)) (by omega) (by omega), wr_i64 (by omega) (by omega)]; congr 1; omega
  obtain ⟨u, hu⟩ : ∃ u : Nat, (u : Int) = k + 64 := ⟨(k + 64).toNat, by omega⟩
  have hv1 : valN (dP r k) = r * 60 ^ u := val_dP u hu
  have hv2 : valN (dP 1 k) = 1 * 60 ^ u := val_dP u hu
  have hs1 : r + 1 < 60 ^ 5 := by omega
  have vr1 := vz_lt (show 0 < r + 1 by omega) hs1
  have q55 : Ans X 55 [.sl [shV r k, shV 1 k]] (.ret (.tup [shV (r + 1) k, vi 0])) := by
    have q := Q55b (l := [dP r k, dP 1 k]) (T := r + 1) (t := u) (sh := k) (by simp) (fun p hp => by
      rcases List.mem_cons.1 hp with rfl | hp
      · exact chk_dP hr0 (by omega) (by omega) (by omega)
      · obtain rfl : p = dP 1 k := by simpa using hp
        exact chk_dP (by decide) (by decide) (by rw [vz_one]; omega) (by rw [vz_one]; omega)) (by
      have e : sumN [dP r k, dP 1 k] = valN (dP r k) + valN (dP 1 k) := by simp [sumN]
      rw [e, hv1, hv2, Nat.add_mul]) hu (show 0 < r + 1 by omega) (by omega) (by omega)
    rw [dP_plc, dP_plc]
    exact q
  have e1k : shV 1 k = .agg [.sl [vi 1], vi k] := by
    have g1 : digB 1 = [1] := digB_num (l := [1]) (by decide) (by decide) (by decide)
    rw [shV, g1, vz_one]
    show V.agg [.sl [vi 1], vi (((0 : Nat) : Int) + k)] = _
    rw [show (((0 : Nat) : Int) + k) = k by omega]
  rw [e1k] at q55
  have q36 := Q36 hn2
  have hn16 : n < 60 ^ 16 := by omega
  have vN := digB_val hn16
  have hcn : core n ≤ n := Nat.div_le_self _ _
  have hcn0 := (core_mod hn1).2
  have q43 := Q43 vN (by rw [num_digB]; omega)
  rw [num_digB] at q43
  have c1 : ¬ ((core n : Int) < 1) := by omega
  have q66a := P66 r k hr0 (by omega) (by omega) (by omega)
  have q66b := P66 (r + 1) k (show 0 < r + 1 by omega) (by omega) (by omega) (by omega)
  have l1 : r * r < 60 ^ 8 := by
    calc r * r < 60 ^ 4 * 60 ^ 4 := Nat.mul_lt_mul'' hr4 hr4
      _ = 60 ^ 8 := rfl
  have l2 : (r + 1) * (r + 1) < 60 ^ 10 := by
    calc (r + 1) * (r + 1) < 60 ^ 5 * 60 ^ 5 := Nat.mul_lt_mul'' hs1 hs1
      _ = 60 ^ 10 := rfl
  have p1 : 0 < r * r := Nat.mul_pos hr0 hr0
  have p2 : 0 < (r + 1) * (r + 1) := Nat.mul_pos (show 0 < r + 1 by omega) (show 0 < r + 1 by omega)
  have w1 := vz_lt p1 l1
  have w2 := vz_lt p2 l2
  have wn := vz_lt (n := 8) hn1 (by omega)
  have qa := Q57 (N := r * r) (M := n) (s1 := 2 * k) (s2 := 0) p1 (by omega) (by omega) (by omega) hn1 hn16 (by omega) (by omega) t 64 (by omega) rfl
  have qb := Q57 (N := n) (M := (r + 1) * (r + 1)) (s1 := 0) (s2 := 2 * k) hn1 hn16 (by omega) (by omega) p2 (by omega) (by omega) (by omega) 64 t rfl (by omega)
  obtain ⟨z, hz, hza⟩ : ∃ z : Int, z ≤ 0 ∧ cmpN (r * r * 60 ^ t) (n * 60 ^ 64) = z := by
    rcases Nat.lt_or_eq_of_le hcm1 with h | h
    · exact ⟨-1, by decide, cmpN_lt h⟩
    · exact ⟨0, by decide, by rw [h]; exact cmpN_eq _⟩
  rw [hza] at qa
  rw [cmpN_lt hcm2] at qb
  have hce := core_eq n
  clear hza hcm1 hcm2 w1 w2 p1 p2 l1 l2 hcn hn16 vN hv1 hv2 hs1 vr1 hDp hlen hcl hr4 hr0 hd4 hr1 hr2 ht ht80 hu e1k
  unfold shV at q46 qc q55 q66a q66b qa qb
  rw [show ((vz n : Int) + 0) = (vz n : Int) by omega] at qa qb
  generalize hv : vz n = v at *
  generalize core n = m at *
  refine gPAS (aI @h0 <|aI @h1 <|aI @ho <|aI @en <|aI @ed <|aI @co33 <|aI @sr33 <|aI @q33n.iffx <|aI @q33d.iffx <|aI @co46 <|aI @sr46 <|aI @q46.iffx <|aI @co59 <|aI @sr59 <|aI @qc.iffx <|aI @nats_length <|aI @cl1 <|aI @cl2 <|@bne_self_eq_false.{0}) ?_
  refine cnd (fun h => ?_) (fun h => ?_)
  · simp at h
  clear h cl1 cl2 q33n q33d q46 qc
  refine gPAS (aI @ho <|aI @elast <|aI @nats_length <|aI @rep22 <|aI @cut2 <|aI @co55 <|aI @sr55 <|aI @q55.iffx <|@bne_self_eq_false.{0}) ?_
  refine cnd (fun h => ?_) (fun h => ?_)
  · simp at h
  clear h
  refine gPAS (aI @ho <|aI @co36 <|aI @sr36 <|aI @q36.iffx <|aI @co43 <|aI @sr43 <|aI @q43.iffx <|aI @c1 <|@bne_self_eq_false.{0}) ?_
  refine cnd (fun h => ?_) (fun h => ?_)
  · simp at h
  clear h
  refine gPAS @ho ?_
  obtain ⟨g5, hg5⟩ : ∃ g, s.m.gen 5 0 + 1 = g := ⟨_, rfl⟩
  obtain ⟨g8, hg8⟩ : ∃ g, s.m.gen 8 0 + 1 = g := ⟨_, rfl⟩
  obtain ⟨g13, hg13⟩ : ∃ g, s.m.gen 13 0 + 1 = g := ⟨_, rfl⟩
  refine W_loopg (fun (i : Nat) s => s.dfs = [] ∧ s.m.out.length = 0 ∧ s.t.get 0 = vn n ∧ s.t.get 5 = .ptr ⟨0, 5, 0, g5⟩ 0 0 ∧ s.t.get 8 = .ptr ⟨0, 8, 0, g8⟩ 0 0 ∧ s.t.get 13 = .ptr ⟨0, 13, 0, g13⟩ 0 0 ∧ s.t.get 14 = vn (m * 60 ^ i) ∧
    s.m.row ⟨0, 5, 0, g5⟩ = some ⟨g5, 54, false, false, [.agg [.sl (nats (digB r)), vi (vz r + k)]]⟩ ∧ s.m.row ⟨0, 8, 0, g8⟩ = some ⟨g8, 54, false, false, [.agg [.sl (nats (digB (r + 1))), vi (vz (r + 1) + k)]]⟩ ∧
    s.m.row ⟨0, 13, 0, g13⟩ = some ⟨g13, 54, false, false, [.agg [.sl (nats (digB n)), vn i]]⟩ ∧ i ≤ v) (fun i => v - i) 0 ?_ ?_
  · refine ⟨hd, ?_, ?_, ?_, ?_, ?_, ?_, ?_, ?_, ?_, Nat.zero_le _⟩
    all_goals (try refine f0 (aI @ho <|aI @hg5 <|aI @hg8 <|@hg13) ?_);all_goals try exact True.intro
    all_goals first | rfl | simp
  clear hd h0 h1 ho hg5 hg8 hg13 elast en ed q55 q36 q43
  rintro i s ⟨hd, ho, h0, h5, h8, h13, h14, r5, r8, r13, hi⟩
  by_cases c : m * 60 ^ i < n
  · have htv : i < v := by
      rcases Nat.lt_or_ge i v with h | h
      · exact h
      · obtain rfl : i = v := by omega
        omega
    have hle : m * 60 ^ (i + 1) ≤ n := by
      have : 60 ^ (i + 1) ≤ 60 ^ v := Nat.pow_le_pow_right (by decide) htv
      have := Nat.mul_le_mul_left m this
      omega
    have hpe : m * 60 ^ (i + 1) = m * 60 ^ i * 60 := by rw [Nat.pow_succ, Nat.mul_assoc]
    generalize hM2 : m * 60 ^ (i + 1) = M2 at hle hpe
    generalize m * 60 ^ i = M1 at *
    have e2 : ((M1 : Nat) : Int) < ((n : Nat) : Int) := by omega
    have e3 : V.int .i64 (wr .i64 ((M1 : Int) * 60)) = vn M2 := by rw [cast_mul60, wr_nat (by omega), hpe]
    have e4 : V.int .i64 (wr .i64 ((i : Int) + 1)) = vn (i + 1) := by rw [wr_i64 (by omega) (by omega)]; rfl
    clear hce hpe hle qa qb q66a q66b
    refine gP (aI @h0 <|aI @h14 <|@e2) ?_
    refine cnd (fun h => ?_) (fun h => ?_)
    · refine gPA (aI @h13 <|aI @h14 <|aI @r13 <|aI @ho <|aI @e3 <|@e4) ?_
      refine ⟨i + 1, ⟨hd, ?_, ?_, ?_, ?_, ?_, ?_, ?_, ?_, ?_, htv⟩, by omega⟩
      all_goals (try refine f0 (aI @ho <|aI @h0 <|aI @h5 <|aI @h8 <|aI @h13 <|aI @r5 <|aI @r8 <|aI @r13 <|@hM2) ?_);all_goals try exact True.intro
    · simp at h
  · have htv : i = v := by
      rcases Nat.lt_or_ge i v with h | h
      · exfalso
        have h1 : 60 ^ i * 60 ≤ 60 ^ v := by rw [← Nat.pow_succ]; exact Nat.pow_le_pow_right (by decide) h
        have h2 := Nat.mul_le_mul_left m h1
        have h3 := pow_pos i
        have h4 : 0 < m * 60 ^ i := Nat.mul_pos hcn0 h3
        rw [← Nat.mul_assoc] at h2
        omega
      · omega
    subst htv
    have e2 : ¬ ((m * 60 ^ i : Nat) : Int) < ((n : Nat) : Int) := by omega
    clear c hce
    refine gP (aI @h0 <|aI @h14 <|@e2) ?_
    refine cnd (fun h => ?_) (fun h => ?_)
    · simp at h
    clear h
    refine gPAS (aI @h5 <|aI @h8 <|aI @h13 <|aI @r5 <|aI @r8 <|aI @r13 <|aI @ho <|aI @co66 <|aI @sr66 <|aI @q66a.iffx <|aI @q66b.iffx <|@Bool.not_true) ?_
    refine cnd (fun h => ?_) (fun h => ?_)
    · simp at h
    refine gPAS (aI @h5 <|aI @h8 <|aI @h13 <|aI @r5 <|aI @r8 <|aI @r13 <|aI @ho <|aI @co57 <|aI @sr57 <|aI @qa.iffx <|aI @qb.iffx <|aI @hz <|aI @beq_self_eq_true.{0} <|aI @co26 <|aI @sr26 <|@P26.iffx) ?_
    refine rP hd @Tryd.results18 ?_
    try exact True.intro
end Go.Proofs.YtpocekfifokndaaDoor
