/- Part 15 of the proof: an evaluator of the program, proved sound against the model, and what the functions of the program compute. No condition but those each theorem states. -/
import Derived.Test.YtpocekfifokndaaDoorG2
import Derived.Test.YtpocekfifokndaaDoorG10
import Derived.Test.YtpocekfifokndaaDoorG6
import Derived.Test.YtpocekfifokndaaDoorG8
import Derived.Test.YtpocekfifokndaaDoorG11
import Derived.Test.YtpocekfifokndaaDoorG3
import Derived.Test.YtpocekfifokndaaDoorG12
import Derived.Test.YtpocekfifokndaaDoorG9
import Derived.Test.YtpocekfifokndaaDoorG5
set_option linter.unusedSimpArgs false
set_option linter.unusedVariables false
namespace Go.Proofs.YtpocekfifokndaaDoor
open Go Go.Ev Go.Pl
set_option maxRecDepth 100000
set_option maxHeartbeats 4000000
def ratF : List Nat → Nat → Nat → Option (Nat × Nat)
  | [], x, d => some (x, d)
  | p :: ps, x, d => if x % p = 0 then ratF ps (x / p) d else if 1048576 < d * p then none else ratF ps x (d * p)
def ratK : Nat → Nat → Nat → Option (Nat × Nat)
  | 0, x, d => some (x, d)
  | k + 1, x, d => (ratF [2, 2, 3, 5] x d).bind fun y => ratK k y.1 y.2
def ratE (r : Option (Nat × Nat)) : Nat × Nat × Int :=
  match r with
  | none => (0, 0, 6)
  | some y => if y.1 ≤ 1099511627776 then (y.1, y.2, 0) else (0, 0, 6)
def ratS (p : List Int × Int) : Nat × Nat × Int :=
  if chkP p.1 p.2 ≠ 0 then (0, 0, chkP p.1 p.2) else if p.1.length = 0 then (0, 1, 0) else ratE (ratK (-p.2).toNat (numI p.1 * 60 ^ p.2.toNat) 1)
abbrev P4l : List Nat := [2, 2, 3, 5]
theorem P4l_get {j : Nat} (h : j < 4) : ∃ p, P4l[j]? = some p ∧ 2 ≤ p ∧ p ≤ 5 ∧ P4l.drop j = p :: P4l.drop (j + 1) := by
  match j, h with
  | 0, _ => exact ⟨2, rfl, by decide, by decide, rfl⟩
  | 1, _ => exact ⟨2, rfl, by decide, by decide, rfl⟩
  | 2, _ => exact ⟨3, rfl, by decide, by decide, rfl⟩
  | 3, _ => exact ⟨5, rfl, by decide, by decide, rfl⟩
theorem P101w (x n : Nat) (hx : x < 60 ^ 96) (hn0 : 0 < n) (hn : n < 1000000000000) : Ans X 101 [wv (x * 60 ^ 72), vn n] (.ret (.tup [wv (x / n * 60 ^ 72), vn (x % n)])) := by
  have h := P101 (x * 60 ^ 72) n (by
    calc x * 60 ^ 72 < 60 ^ 96 * 60 ^ 72 := Nat.mul_lt_mul_of_pos_right hx (by decide)
      _ = 60 ^ 168 := by decide) hn0 hn
  rw [Nat.mul_div_cancel _ (by decide), Nat.mul_mod_left, Nat.add_zero] at h
  exact h
theorem P105w (x : Nat) (hx : x < 60 ^ 96) : Ans X 105 [wv (x * 60 ^ 72), vi 1099511627776] (.ret (.tup (if x ≤ 1099511627776 then [vn x, .bool true] else [vi 0, .bool false]))) := by
  have h := P105 (x * 60 ^ 72) (by
    calc x * 60 ^ 72 < 60 ^ 96 * 60 ^ 72 := Nat.mul_lt_mul_of_pos_right hx (by decide)
      _ = 60 ^ 168 := by decide)
  rw [Nat.mul_div_cancel _ (by decide)] at h
  exact h
theorem P61 (p : List Int × Int) : Ans X 61 [.agg [.sl (ints p.1), vi p.2]] (.ret (.tup [.agg [vn (ratS p).1, vn (ratS p).2.1], vi (ratS p).2.2])) := by
  refine call_of_X (fn := Tryd.f61) 1 Tryd.func61 rfl (by decide +kernel) rfl ?_ ?_ ?_ ?_
  · rfl
  · intro h; exact absurd h (by rw [sr61]; decide)
  · intro v hv; injection hv with hv; subst hv; rfl
  intro s hs hd ho
  have hm : s.m = ⟨.nil, []⟩ := by subst hs; rfl
  have h0 : s.t.get 0 = .agg [.sl (ints p.1), vi p.2] := by subst hs; rfl
  clear hs
  obtain ⟨a, sh⟩ := p
  dsimp only at h0
  refine gPA (aI @h0 <|aI @hm <|aI @co59 <|aI @sr59 <|((P59 a sh).iffx)) ?_
  refine cnd (fun h => ?_) (fun h => ?_)
  · have h : chkP a sh ≠ 0 := by simpa using h
    rw [ratS, if_pos h]
    refine gPA @hm ?_
    refine rPA hd (aI @Tryd.results61 <|@hm) ?_
    try exact True.intro
    rfl
  have hc : chkP a sh = 0 := by simpa using h
  rw [ratS, if_neg (fun e => e hc)]
  clear h
  dsimp only
  by_cases hl : a.length = 0
  · have e1 : (((a.length : Nat) : Int) == 0) = true := by rw [hl]; rfl
    rw [if_pos hl]
    refine gPA (aI @h0 <|aI @hm <|aI @ints_length <|@e1) ?_
    refine cnd (fun h => ?_) (fun h => ?_)
    · refine gPA @hm ?_
      refine rPA hd (aI @Tryd.results61 <|@hm) ?_
      try exact True.intro
      rfl
    · simp at h
  have e1 : (((a.length : Nat) : Int) == 0) = false := by rw [beq_eq_false_iff_ne]; omega
  rw [if_neg hl]
  refine gPA (aI @h0 <|aI @hm <|aI @ints_length <|@e1) ?_
  refine cnd (fun h => ?_) (fun h => ?_)
  · simp at h
  clear h
  obtain ⟨hk, hs1, hs2⟩ := chkP_ok hc
  obtain ⟨b1, b2, b3, b4, _⟩ := chk_ok hk
  obtain ⟨t, ht⟩ : ∃ t : Nat, (t : Int) = (if (0 : Int) > sh then 0 else sh) := ⟨sh.toNat, by split <;> omega⟩
  obtain ⟨u, hu⟩ : ∃ u : Nat, (u : Int) = 0 - (if (0 : Int) < sh then 0 else sh) := ⟨(-sh).toNat, by split <;> omega⟩
  have et : sh.toNat = t := by split at ht <;> omega
  have eu : (-sh).toNat = u := by split at hu <;> omega
  have ht64 : t ≤ 64 ∧ u ≤ 64 := by omega
  have q86 : Ans X 86 [.sl (ints a), vn t] (.ret (wv (numI a * 60 ^ (72 + t)))) := by
    rw [b1]
    exact P86 (natsOf a) t (72 + t) (by omega) b2 (by rw [b4]; omega)
  have hN := numI_lt hk
  rw [et, eu]
  have hx0 : numI a * 60 ^ t < 60 ^ 96 := by
    calc numI a * 60 ^ t < 60 ^ 16 * 60 ^ t := Nat.mul_lt_mul_of_pos_right hN (pow_pos t)
      _ = 60 ^ (16 + t) := (Nat.pow_add ..).symm
      _ ≤ 60 ^ 96 := Nat.pow_le_pow_right (by decide) (by omega)
  rw [show numI a * 60 ^ (72 + t) = numI a * 60 ^ t * 60 ^ 72 by rw [Nat.pow_add, Nat.mul_comm (60 ^ 72), Nat.mul_assoc]] at q86
  generalize numI a * 60 ^ t = x0 at *
  have wt : V.int .i64 (if (0 : Int) > sh then 0 else sh) = vn t := by rw [← ht]
  have wu : V.int .i64 (wr .i64 (0 - (if (0 : Int) < sh then 0 else sh))) = vn u := by rw [← hu, wr_nat (by omega)]
  have hR : ratE (ratK u x0 1) = ratE (ratK u x0 1) := rfl
  generalize hRR : ratE (ratK u x0 1) = R at hR ⊢
  clear b1 b2 b3 b4 hk hs1 hs2 et eu hN e1
  clear ht hu
  refine gPASW (aI @h0 <|aI @hm <|aI @wt <|aI @wu <|aI @co86 <|aI @sr86 <|@q86.iffx) ?_
  refine W_loopg (fun (w : Nat × Nat × Nat) s => s.dfs = [] ∧ s.m.out.length = 0 ∧ s.t.get 2 = .ptr ⟨0, 2, 0, 1⟩ 0 0 ∧ s.t.get 5 = .ptr ⟨0, 5, 0, 1⟩ 0 0 ∧ s.t.get 6 = vn w.2.2 ∧ s.t.get 33 = vn u ∧ s.t.get 34 = vn w.1 ∧
    s.m.row ⟨0, 2, 0, 1⟩ = some ⟨1, 76, false, false, [.agg [vi 0, vi 0]]⟩ ∧ s.m.row ⟨0, 5, 0, 1⟩ = some ⟨1, 100, false, false, [wv (w.2.1 * 60 ^ 72)]⟩ ∧
    w.1 ≤ u ∧ w.2.1 < 60 ^ 96 ∧ w.2.2 ≤ 1048576 ∧ ratE (ratK (u - w.1) w.2.1 w.2.2) = R) (fun w => u - w.1) (0, x0, 1) ?_ ?_
  · refine ⟨hd, ?_, ?_, ?_, ?_, ?_, ?_, ?_, ?_, Nat.zero_le _, hx0, by show 1 ≤ 1048576; omega, hRR⟩
    all_goals (try refine fW (aI @h0 <|@hm) ?_);all_goals try exact True.intro
    all_goals rfl
  clear hd ho h0 hm hRR hR q86 wt wu hx0 hc hl
  rintro ⟨k, x, d⟩ s ⟨hd, ho, h2, h5, h6, h33, h34, r2, r5, hk, hx, hdd, hR⟩
  dsimp only at h6 h34 r5 hk hx hdd hR
  refine gP (aI @h33 <|@h34) ?_
  refine cnd (fun h => ?_) (fun h => ?_)
  · have hku : k < u := by have := of_decide_eq_true h; omega
    clear h
    rw [show u - k = (u - (k + 1)) + 1 by omega, ratK] at hR
    refine gPA @Nat.zero_add ?_
    refine W_loopg (fun (w : Nat × Nat × Nat) s => s.dfs = [] ∧ s.m.out.length = 0 ∧ s.t.get 2 = .ptr ⟨0, 2, 0, 1⟩ 0 0 ∧ s.t.get 5 = .ptr ⟨0, 5, 0, 1⟩ 0 0 ∧ s.t.get 6 = vn w.2.2 ∧ s.t.get 33 = vn u ∧ s.t.get 34 = vn k ∧ s.t.get 36 = .agg (nats P4l) ∧ s.t.get 37 = vn w.1 ∧
      s.m.row ⟨0, 2, 0, 1⟩ = some ⟨1, 76, false, false, [.agg [vi 0, vi 0]]⟩ ∧ s.m.row ⟨0, 5, 0, 1⟩ = some ⟨1, 100, false, false, [wv (w.2.1 * 60 ^ 72)]⟩ ∧
      w.1 ≤ 4 ∧ w.2.1 < 60 ^ 96 ∧ w.2.2 ≤ 1048576 ∧ ratE ((ratF (P4l.drop w.1) w.2.1 w.2.2).bind fun y => ratK (u - (k + 1)) y.1 y.2) = R) (fun w => 4 - w.1) (0, x, d) ?_ ?_
    · refine ⟨hd, ?_, ?_, ?_, ?_, ?_, ?_, ?_, ?_, ?_, ?_, Nat.zero_le _, hx, hdd, hR⟩
      all_goals (try refine f0 (aI @h2 <|aI @h5 <|aI @h6 <|aI @h33 <|aI @h34 <|aI @r2 <|aI @r5 <|@ho) ?_);all_goals try exact True.intro
      all_goals rfl
    clear hd ho h2 h5 h6 h33 h34 r2 r5 hx hdd hR
    clear hk
    rintro ⟨j, x, d⟩ s ⟨hd, ho, h2, h5, h6, h33, h34, h36, h37, r2, r5, hj, hx, hdd, hR⟩
    dsimp only at h6 h37 r5 hj hx hdd hR
    refine gP @h37 ?_
    refine cnd (fun h => ?_) (fun h => ?_)
    · have hj4 : j < 4 := by have := of_decide_eq_true h; omega
      clear h
      obtain ⟨p, hp, hp2, hp5, hdrop⟩ := P4l_get hj4
      rw [hdrop, ratF] at hR
      have q1 := P101w x p hx (by omega) (by omega)
      have gp : (nats P4l)[j]? = some (vn p) := by rw [nats, List.getElem?_map, hp]; rfl
      have j1 : (j : Int) < 4 := by omega
      have j2 : (0 : Int) ≤ (j : Int) := by omega
      have w1 : V.int .i64 (wr .i64 ((d : Int) * p)) = vn (d * p) := by
        have hle : d * p ≤ 1048576 * 5 := Nat.mul_le_mul hdd hp5
        rw [show (d : Int) * p = ((d * p : Nat) : Int) from (Int.natCast_mul d p).symm, wr_nat (by omega)]
      have w2 : V.int .i64 (wr .i64 ((j : Int) + 1)) = vn (j + 1) := by rw [wr_i64 (by omega) (by omega)]; rfl
      clear hdrop hp
      refine gPASW (aI @h2 <|aI @h5 <|aI @h6 <|aI @h33 <|aI @h34 <|aI @h36 <|aI @h37 <|aI @r2 <|aI @r5 <|aI @ho <|aI @gp <|aI @j1 <|aI @j2 <|aI @co101 <|aI @sr101 <|@q1.iffx) ?_
      refine cnd (fun h => ?_) (fun h => ?_)
      · have h : x % p = 0 := by have h' := eq_of_beq h; omega
        rw [if_pos h] at hR
        have hx' : x / p < 60 ^ 96 := Nat.lt_of_le_of_lt (Nat.div_le_self _ _) hx
        clear h w1 q1 hx
        refine gPASW (aI @h2 <|aI @h5 <|aI @h6 <|aI @h33 <|aI @h34 <|aI @h36 <|aI @h37 <|aI @r2 <|aI @r5 <|aI @ho <|@w2) ?_
        refine ⟨(j + 1, x / p, d), ⟨hd, ?_, ?_, ?_, ?_, ?_, ?_, ?_, ?_, ?_, ?_, by show j + 1 ≤ 4; omega, hx', hdd, hR⟩, by show 4 - (j + 1) < 4 - j; omega⟩
        all_goals (try refine fW (aI @h2 <|aI @h5 <|aI @h6 <|aI @h33 <|aI @h34 <|aI @h36 <|aI @h37 <|aI @r2 <|aI @r5 <|@ho) ?_);all_goals try exact True.intro
      · have h : ¬ x % p = 0 := by have h' := ne_of_beq_false h; omega
        rw [if_neg h] at hR
        clear h q1
        refine gPASW (aI @h2 <|aI @h5 <|aI @h6 <|aI @h33 <|aI @h34 <|aI @h36 <|aI @h37 <|aI @r2 <|aI @r5 <|aI @ho <|@w1) ?_
        refine cnd (fun h => ?_) (fun h => ?_)
        · have h : 1048576 < d * p := by have h' := of_decide_eq_true h; omega
          rw [if_pos h] at hR
          subst hR
          clear h w1
          refine gPASW (aI @h2 <|aI @h5 <|aI @h6 <|aI @h33 <|aI @h34 <|aI @h36 <|aI @h37 <|aI @r2 <|aI @r5 <|@ho) ?_
          refine rPASW hd (aI @Tryd.results61 <|aI @h2 <|aI @h5 <|aI @h6 <|aI @h33 <|aI @h34 <|aI @h36 <|aI @h37 <|aI @r2 <|aI @r5 <|@ho) ?_
          try exact True.intro
          rfl
        · have h : ¬ 1048576 < d * p := by have h' := of_decide_eq_false h; omega
          rw [if_neg h] at hR
          refine gPASW (aI @h2 <|aI @h5 <|aI @h6 <|aI @h33 <|aI @h34 <|aI @h36 <|aI @h37 <|aI @r2 <|aI @r5 <|aI @ho <|aI @w1 <|@w2) ?_
          refine ⟨(j + 1, x, d * p), ⟨hd, ?_, ?_, ?_, ?_, ?_, ?_, ?_, ?_, ?_, ?_, by show j + 1 ≤ 4; omega, hx, by show d * p ≤ 1048576; omega, hR⟩, by show 4 - (j + 1) < 4 - j; omega⟩
          all_goals (try refine fW (aI @h2 <|aI @h5 <|aI @h6 <|aI @h33 <|aI @h34 <|aI @h36 <|aI @h37 <|aI @r2 <|aI @r5 <|@ho) ?_);all_goals try exact True.intro
    · have hj4 : j = 4 := by have := of_decide_eq_false h; omega
      subst hj4
      clear h
      have w2 : V.int .i64 (wr .i64 ((k : Int) + 1)) = vn (k + 1) := by rw [wr_i64 (by omega) (by omega)]; rfl
      refine gP (aI @h34 <|@w2) ?_
      refine ⟨(k + 1, x, d), ⟨hd, ?_, ?_, ?_, ?_, ?_, ?_, ?_, ?_, by show k + 1 ≤ u; omega, hx, hdd, hR⟩, by show u - (k + 1) < u - k; omega⟩
      all_goals (try refine f0 (aI @h2 <|aI @h5 <|aI @h6 <|aI @h33 <|aI @h34 <|aI @r2 <|aI @r5 <|@ho) ?_);all_goals try exact True.intro
  · have hku : k = u := by have := of_decide_eq_false h; omega
    subst hku
    clear h
    rw [Nat.sub_self, ratK, ratE] at hR
    have q1 := P105w x hx
    by_cases c : x ≤ 1099511627776
    · rw [if_pos c] at hR q1
      subst hR
      clear c hx
      refine gPASW (aI @h2 <|aI @h5 <|aI @h6 <|aI @r2 <|aI @r5 <|aI @ho <|aI @co105 <|aI @sr105 <|@q1.iffx) ?_
      refine cnd (fun h => ?_) (fun h => ?_)
      · simp at h
      refine gPASW (aI @h2 <|aI @h5 <|aI @h6 <|aI @r2 <|aI @r5 <|@ho) ?_
      refine rPASW hd (aI @Tryd.results61 <|aI @h2 <|aI @h5 <|aI @h6 <|aI @r2 <|aI @r5 <|@ho) ?_
      try exact True.intro
    · rw [if_neg c] at hR q1
      subst hR
      clear c hx
      refine gPASW (aI @h2 <|aI @h5 <|aI @h6 <|aI @r2 <|aI @r5 <|aI @ho <|aI @co105 <|aI @sr105 <|@q1.iffx) ?_
      refine cnd (fun h => ?_) (fun h => ?_)
      · refine gPASW (aI @h2 <|aI @h5 <|aI @h6 <|aI @r2 <|aI @r5 <|@ho) ?_
        refine rPASW hd (aI @Tryd.results61 <|aI @h2 <|aI @h5 <|aI @h6 <|aI @r2 <|aI @r5 <|@ho) ?_
        try exact True.intro
        rfl
      · simp at h
end Go.Proofs.YtpocekfifokndaaDoor
namespace Go.Proofs.YtpocekfifokndaaDoor
open Go Go.Ev Go.Pl
set_option maxRecDepth 100000
set_option maxHeartbeats 4000000
theorem P122 (C : Nat) (hl : (canL C).length < 1000) : Ans X 122 [.sl (nats (canL C))] (.ret (.tup (if C ≤ 1099511627776 then [vn C, .bool true] else [vi 0, .bool false]))) := by
  refine call_of_X (fn := Tryd.f122) 1 Tryd.func122 rfl (by decide +kernel) rfl ?_ ?_ ?_ ?_
  · rfl
  · intro _; split <;> rfl
  · intro v hv; injection hv with hv; subst hv; split <;> rfl
  intro s hs hd ho
  have h0 : s.t.get 0 = .sl (nats (canL C)) := by subst hs; rfl
  clear hs
  have hC : C < 60 ^ (canL C).length := canL_length_le.1 (Nat.le_refl _)
  have hget : ∀ i, i < (canL C).length → (canL C)[i]? = some (dig C i) := fun i hi => by
    conv => lhs; rw [canL_tab]
    exact tab_get? hi
  generalize hL : canL C = L at *
  generalize hn : L.length = n at *
  have e0 : V.int .i64 (wr .i64 ((n : Int) - 1)) = vi ((n : Int) - 1) := by rw [wr_i64 (by omega) (by omega)]
  refine gPS (aI @h0 <|aI @nats_length <|aI @hn <|@e0) ?_
  refine W_loopg (fun (k : Nat) s => s.dfs = [] ∧ s.m.out.length = 0 ∧ s.t.get 0 = .sl (nats L) ∧ s.t.get 4 = vn (C / 60 ^ k) ∧ s.t.get 5 = vi ((k : Int) - 1) ∧ k ≤ n ∧ C / 60 ^ k ≤ 1099511627776) (fun k => k) n ?_ ?_
  · have hz : C / 60 ^ n = 0 := Nat.div_eq_of_lt hC
    rw [hz]
    refine ⟨hd, ?_, ?_, ?_, ?_, Nat.le_refl _, Nat.zero_le _⟩
    all_goals (try refine f0 (aI @h0 <|@ho) ?_);all_goals try exact True.intro
    all_goals rfl
  clear hd h0 ho hC
  rintro k s ⟨hd, ho, h0, h4, h5, hk, hle⟩
  refine gP @h5 ?_
  refine cnd (fun h => ?_) (fun h => ?_)
  · have hk0 : 0 < k := by have := of_decide_eq_true h; omega
    have hst := int_step C k hk0
    have hd60 := dig_lt C (k - 1)
    have hg := hget (k - 1) (by omega)
    have hmono : C / 60 ^ (k - 1) ≤ C := Nat.div_le_self _ _
    generalize C / 60 ^ k = q at *
    generalize dig C (k - 1) = d at *
    have hg' : (nats L)[k - 1]? = some (vn d) := by rw [nats, List.getElem?_map, hg]; rfl
    have i1 : (0 : Int) ≤ (k : Int) - 1 := by omega
    have i2 : (k : Int) - 1 < (n : Int) := by omega
    have i3 : ((k : Int) - 1).toNat = k - 1 := by omega
    have g1 : V.int .i64 (wr .i64 ((q : Int) * 60)) = vn (q * 60) := by rw [cast_mul60, wr_nat (by omega)]
    have g2 : V.int .i64 (wr .i64 (((q * 60 : Nat) : Int) + d)) = vn (q * 60 + d) := by rw [cast_add, wr_nat (by omega)]
    have g3 : V.int .i64 (wr .i64 ((k : Int) - 1 - 1)) = vi (((k - 1 : Nat) : Int) - 1) := by rw [wr_i64 (by omega) (by omega)]; congr 1; omega
    have hm : k - 1 ≤ n ∧ k - 1 < k := by omega
    rw [← hst] at g2
    by_cases c : C / 60 ^ (k - 1) ≤ 1099511627776
    · have c' : ¬ (((C / 60 ^ (k - 1) : Nat) : Int) > 1099511627776) := by omega
      clear h hst hmono hle
      refine gP (aI @h0 <|aI @h4 <|aI @h5 <|aI @nats_length <|aI @hn <|aI @i1 <|aI @i2 <|aI @i3 <|aI @hg' <|aI @g1 <|aI @g2 <|@c') ?_
      refine cnd (fun h => ?_) (fun h => ?_)
      · simp at h
      refine gP (aI @h5 <|@g3) ?_
      refine ⟨k - 1, ⟨hd, ?_, ?_, ?_, ?_, hm.1, c⟩, hm.2⟩
      all_goals (try refine f0 (aI @h0 <|@ho) ?_);all_goals try exact True.intro
    · have c' : ((C / 60 ^ (k - 1) : Nat) : Int) > 1099511627776 := by omega
      rw [if_neg (by omega)]
      clear h hst hmono hle
      refine gP (aI @h0 <|aI @h4 <|aI @h5 <|aI @nats_length <|aI @hn <|aI @i1 <|aI @i2 <|aI @i3 <|aI @hg' <|aI @g1 <|aI @g2 <|@c') ?_
      refine cnd (fun h => ?_) (fun h => ?_)
      · refine gP @Nat.zero_add ?_
        refine rP hd @Tryd.results122 ?_
        try exact True.intro
      · simp at h
  · have hk0 : k = 0 := by have := of_decide_eq_false h; omega
    subst hk0
    rw [Nat.pow_zero, Nat.div_one] at h4 hle
    rw [if_pos hle]
    refine gP @h4 ?_
    refine rP hd @Tryd.results122 ?_
    try exact True.intro
end Go.Proofs.YtpocekfifokndaaDoor
namespace Go.Proofs.YtpocekfifokndaaDoor
open Go Go.Ev Go.Pl
set_option maxRecDepth 100000
set_option maxHeartbeats 4000000
theorem rep4 (v : V) : List.replicate 4 v = [v, v, v, v] := rfl
theorem P62 (p : List Int × Int) : Ans X 62 [.agg [.sl (ints p.1), vi p.2]] (.ret (.tup [.agg [vn (ratS p).1, vn (ratS p).2.1], vi (ratS p).2.2])) := by
  refine call_of_X (fn := Tryd.f62) 1 Tryd.func62 rfl (by decide +kernel) rfl ?_ ?_ ?_ ?_
  · rfl
  · intro h; exact absurd h (by rw [sr62]; decide)
  · intro v hv; injection hv with hv; subst hv; rfl
  intro s hs hd ho
  have hm : s.m = ⟨.nil, []⟩ := by subst hs; rfl
  have h0 : s.t.get 0 = .agg [.sl (ints p.1), vi p.2] := by subst hs; rfl
  clear hs
  obtain ⟨a, sh⟩ := p
  dsimp only at h0
  refine gPA (aI @h0 <|aI @hm <|aI @co60 <|aI @sr60 <|((P60 a sh).iffx)) ?_
  refine cnd (fun h => ?_) (fun h => ?_)
  · have h : chkP a sh ≠ 0 := by simpa using h
    rw [ratS, if_pos h]
    refine gPA @hm ?_
    refine rPA hd (aI @Tryd.results62 <|@hm) ?_
    try exact True.intro
    rfl
  have hc : chkP a sh = 0 := by simpa using h
  rw [ratS, if_neg (fun e => e hc)]
  clear h
  dsimp only
  by_cases hl : a.length = 0
  · have e1 : (((a.length : Nat) : Int) == 0) = true := by rw [hl]; rfl
    rw [if_pos hl]
    refine gPA (aI @h0 <|aI @hm <|aI @ints_length <|@e1) ?_
    refine cnd (fun h => ?_) (fun h => ?_)
    · refine gPA @hm ?_
      refine rPA hd (aI @Tryd.results62 <|@hm) ?_
      try exact True.intro
      rfl
    · simp at h
  have e1 : (((a.length : Nat) : Int) == 0) = false := by rw [beq_eq_false_iff_ne]; omega
  rw [if_neg hl]
  refine gPA (aI @h0 <|aI @hm <|aI @ints_length <|@e1) ?_
  refine cnd (fun h => ?_) (fun h => ?_)
  · simp at h
  clear h
  obtain ⟨hk, hs1, hs2⟩ := chkP_ok hc
  obtain ⟨b1, b2, b3, b4, _⟩ := chk_ok hk
  have hNp := numI_pos hk hl
  have hN := numI_lt hk
  have q85 : Ans X 85 [.sl (ints a)] (.ret (.sl (nats (canL (numI a))))) := by
    rw [b1]
    exact P85 (natsOf a) b2 (by rw [b4]; omega)
  generalize numI a = N at *
  clear b1 b2 b3 b4 hk e1 hc hl
  refine gPA (aI @h0 <|aI @hm <|aI @co85 <|aI @sr85 <|@q85.iffx) ?_
  refine cnd (fun h => ?_) (fun h => ?_)
  · have h := of_decide_eq_true h
    obtain ⟨t, rfl⟩ : ∃ t : Nat, sh = t := ⟨sh.toNat, by omega⟩
    have ht : t ≤ 64 := by omega
    rw [show (-(t : Int)).toNat = 0 by omega, Int.toNat_natCast, ratK, ratE]
    have hx0 : N * 60 ^ t < 60 ^ 96 := by
      calc N * 60 ^ t < 60 ^ 16 * 60 ^ t := Nat.mul_lt_mul_of_pos_right hN (pow_pos t)
        _ = 60 ^ (16 + t) := (Nat.pow_add ..).symm
        _ ≤ 60 ^ 96 := Nat.pow_le_pow_right (by decide) (by omega)
    have hl96 := canL_length_le.2 hx0
    have q122 := P122 (N * 60 ^ t) (by omega)
    have hcl := canL_length_le.2 hN
    rw [← canL_rep hNp] at q122
    generalize canL N = L at *
    generalize N * 60 ^ t = x at *
    have hcut : cut (List.replicate t (V.int .i64 0)) 0 t = List.replicate t (V.int .i64 0) := by
      unfold cut; rw [List.drop_zero, List.take_of_length_le (by simp)]
    have hcut2 : cut (nats (List.replicate t 0 ++ L)) 0 (t + L.length) = nats (List.replicate t 0 ++ L) := by
      have := cut_nats (List.replicate t 0 ++ L)
      rwa [List.length_append, List.length_replicate] at this
    clear h hl96 hx0 hs1 hs2 hNp hN q85
    by_cases c : x ≤ 1099511627776
    · rw [if_pos c] at q122 ⊢
      refine gPAS (aI @h0 <|aI @hm <|aI @hcut <|aI @hcut2 <|aI @rep_nats <|aI @nats_length <|aI @nats_width <|aI @List.length_replicate.{0} <|aI @List.length_append.{0} <|aI @co122 <|aI @sr122 <|@q122.iffx) ?_
      refine cnd (fun h => ?_) (fun h => ?_)
      · simp at h
      refine gPAS @hm ?_
      refine rPAS hd (aI @Tryd.results62 <|@hm) ?_
      try exact True.intro
      rfl
    · rw [if_neg c] at q122 ⊢
      refine gPAS (aI @h0 <|aI @hm <|aI @hcut <|aI @hcut2 <|aI @rep_nats <|aI @nats_length <|aI @nats_width <|aI @List.length_replicate.{0} <|aI @List.length_append.{0} <|aI @co122 <|aI @sr122 <|@q122.iffx) ?_
      refine cnd (fun h => ?_) (fun h => ?_)
      · refine gPAS @hm ?_
        refine rPAS hd (aI @Tryd.results62 <|@hm) ?_
        try exact True.intro
        rfl
      · simp at h
  · have h := of_decide_eq_false h
    obtain ⟨u, rfl⟩ : ∃ u : Nat, sh = -(u : Int) := ⟨(-sh).toNat, by omega⟩
    have hu : 0 < u ∧ u ≤ 64 := by omega
    rw [show (- -(u : Int)).toNat = u by omega, show (-(u : Int)).toNat = 0 by omega, Nat.pow_zero, Nat.mul_one]
    have hx0 : N < 60 ^ 96 := Nat.lt_trans hN (by decide)
    generalize hRR : ratE (ratK u N 1) = R
    clear h hs1 hs2 hNp hN
    refine gPAS (aI @h0 <|aI @hm <|@rep4) ?_
    refine W_loopg (fun (w : Nat × Nat × Nat) s => s.dfs = [] ∧ s.m.out.length = 0 ∧ s.t.get 2 = .ptr ⟨0, 2, 0, 1⟩ 0 0 ∧ s.t.get 5 = .sl (nats (canL w.2.1)) ∧ s.t.get 8 = vn w.2.2 ∧ s.t.get 9 = .rs ⟨0, 47, 0, 1⟩ 3 0 4 ∧ s.t.get 10 = vi ((w.1 : Int) - u) ∧
      s.m.row ⟨0, 2, 0, 1⟩ = some ⟨1, 76, false, false, [.agg [vi 0, vi 0]]⟩ ∧ s.m.row ⟨0, 47, 0, 1⟩ = some ⟨1, 3, true, false, nats P4l⟩ ∧
      w.1 ≤ u ∧ w.2.1 < 60 ^ 96 ∧ w.2.2 ≤ 1048576 ∧ ratE (ratK (u - w.1) w.2.1 w.2.2) = R) (fun w => u - w.1) (0, N, 1) ?_ ?_
    · refine ⟨hd, ?_, ?_, ?_, ?_, ?_, ?_, ?_, ?_, Nat.zero_le _, hx0, by show 1 ≤ 1048576; omega, hRR⟩
      all_goals (try refine fS (aI @h0 <|@hm) ?_);all_goals try exact True.intro
      all_goals first | rfl | simp
    clear hd ho h0 hm hRR q85 hx0
    rintro ⟨k, x, d⟩ s ⟨hd, ho, h2, h5, h8, h9, h10, r2, r47, hk, hx, hdd, hR⟩
    dsimp only at h5 h8 h10 hk hx hdd hR
    refine gP @h10 ?_
    refine cnd (fun h => ?_) (fun h => ?_)
    · have hku : k < u := by have := of_decide_eq_true h; omega
      clear h
      rw [show u - k = (u - (k + 1)) + 1 by omega, ratK] at hR
      refine gP @Nat.zero_add ?_
      refine W_loopg (fun (w : Nat × Nat × Nat) s => s.dfs = [] ∧ s.m.out.length = 0 ∧ s.t.get 2 = .ptr ⟨0, 2, 0, 1⟩ 0 0 ∧ s.t.get 5 = .sl (nats (canL w.2.1)) ∧ s.t.get 8 = vn w.2.2 ∧ s.t.get 9 = .rs ⟨0, 47, 0, 1⟩ 3 0 4 ∧ s.t.get 10 = vi ((k : Int) - u) ∧ s.t.get 11 = vn w.1 ∧
        s.m.row ⟨0, 2, 0, 1⟩ = some ⟨1, 76, false, false, [.agg [vi 0, vi 0]]⟩ ∧ s.m.row ⟨0, 47, 0, 1⟩ = some ⟨1, 3, true, false, nats P4l⟩ ∧
        w.1 ≤ 4 ∧ w.2.1 < 60 ^ 96 ∧ w.2.2 ≤ 1048576 ∧ ratE ((ratF (P4l.drop w.1) w.2.1 w.2.2).bind fun y => ratK (u - (k + 1)) y.1 y.2) = R) (fun w => 4 - w.1) (0, x, d) ?_ ?_
      · refine ⟨hd, ?_, ?_, ?_, ?_, ?_, ?_, ?_, ?_, ?_, Nat.zero_le _, hx, hdd, hR⟩
        all_goals (try refine f0 (aI @h2 <|aI @h5 <|aI @h8 <|aI @h9 <|aI @h10 <|aI @r2 <|aI @r47 <|@ho) ?_);all_goals try exact True.intro
        all_goals rfl
      clear hd ho h2 h5 h8 h9 h10 r2 r47 hx hdd hR
      clear hk
      rintro ⟨j, x, d⟩ s ⟨hd, ho, h2, h5, h8, h9, h10, h11, r2, r47, hj, hx, hdd, hR⟩
      dsimp only at h5 h8 h11 hj hx hdd hR
      refine gPS (aI @h9 <|@h11) ?_
      refine cnd (fun h => ?_) (fun h => ?_)
      · have hj4 : j < 4 := by have := of_decide_eq_true h; omega
        clear h
        obtain ⟨p, hp, hp2, hp5, hdrop⟩ := P4l_get hj4
        rw [hdrop, ratF] at hR
        have hcx := canL_length_le.2 hx
        have q1 := P102 x p (by omega) (by omega) (by omega)
        have gp : (nats P4l)[j]? = some (vn p) := by rw [nats, List.getElem?_map, hp]; rfl
        have j1 : (j : Int) < 4 := by omega
        have j2 : (0 : Int) ≤ (j : Int) := by omega
        have w1 : V.int .i64 (wr .i64 ((d : Int) * p)) = vn (d * p) := by
          have hle : d * p ≤ 1048576 * 5 := Nat.mul_le_mul hdd hp5
          rw [show (d : Int) * p = ((d * p : Nat) : Int) from (Int.natCast_mul d p).symm, wr_nat (by omega)]
        have w2 : V.int .i64 (wr .i64 ((j : Int) + 1)) = vn (j + 1) := by rw [wr_i64 (by omega) (by omega)]; rfl
        clear hdrop hp
        refine gPAS (aI @h2 <|aI @h5 <|aI @h8 <|aI @h9 <|aI @h10 <|aI @h11 <|aI @r2 <|aI @r47 <|aI @ho <|aI @gp <|aI @hj4 <|aI @j1 <|aI @j2 <|aI @co102 <|aI @sr102 <|@q1.iffx) ?_
        refine cnd (fun h => ?_) (fun h => ?_)
        · have h : x % p = 0 := by have h' := eq_of_beq h; omega
          rw [if_pos h] at hR
          have hx' : x / p < 60 ^ 96 := Nat.lt_of_le_of_lt (Nat.div_le_self _ _) hx
          clear h w1 q1 hx hcx
          refine gPAS (aI @h2 <|aI @h5 <|aI @h8 <|aI @h9 <|aI @h10 <|aI @h11 <|aI @r2 <|aI @r47 <|aI @ho <|@w2) ?_
          refine ⟨(j + 1, x / p, d), ⟨hd, ?_, ?_, ?_, ?_, ?_, ?_, ?_, ?_, ?_, by show j + 1 ≤ 4; omega, hx', hdd, hR⟩, by show 4 - (j + 1) < 4 - j; omega⟩
          all_goals (try refine f0 (aI @h2 <|aI @h5 <|aI @h8 <|aI @h9 <|aI @h10 <|aI @h11 <|aI @r2 <|aI @r47 <|@ho) ?_);all_goals try exact True.intro
        · have h : ¬ x % p = 0 := by have h' := ne_of_beq_false h; omega
          rw [if_neg h] at hR
          clear h q1 hcx
          refine gPAS (aI @h2 <|aI @h5 <|aI @h8 <|aI @h9 <|aI @h10 <|aI @h11 <|aI @r2 <|aI @r47 <|aI @ho <|aI @gp <|aI @hj4 <|aI @j1 <|aI @j2 <|@w1) ?_
          refine cnd (fun h => ?_) (fun h => ?_)
          · have h : 1048576 < d * p := by have h' := of_decide_eq_true h; omega
            rw [if_pos h] at hR
            subst hR
            clear h w1
            refine gPAS (aI @h2 <|aI @h5 <|aI @h8 <|aI @h9 <|aI @h10 <|aI @h11 <|aI @r2 <|aI @r47 <|@ho) ?_
            refine rPAS hd (aI @Tryd.results62 <|aI @h2 <|aI @h5 <|aI @h8 <|aI @h9 <|aI @h10 <|aI @h11 <|aI @r2 <|aI @r47 <|@ho) ?_
            try exact True.intro
            rfl
          · have h : ¬ 1048576 < d * p := by have h' := of_decide_eq_false h; omega
            rw [if_neg h] at hR
            refine gPAS (aI @h2 <|aI @h5 <|aI @h8 <|aI @h9 <|aI @h10 <|aI @h11 <|aI @r2 <|aI @r47 <|aI @ho <|aI @w1 <|@w2) ?_
            refine ⟨(j + 1, x, d * p), ⟨hd, ?_, ?_, ?_, ?_, ?_, ?_, ?_, ?_, ?_, by show j + 1 ≤ 4; omega, hx, by show d * p ≤ 1048576; omega, hR⟩, by show 4 - (j + 1) < 4 - j; omega⟩
            all_goals (try refine f0 (aI @h2 <|aI @h5 <|aI @h8 <|aI @h9 <|aI @h10 <|aI @h11 <|aI @r2 <|aI @r47 <|@ho) ?_);all_goals try exact True.intro
      · have hj4 : j = 4 := by have := of_decide_eq_false h; omega
        subst hj4
        clear h
        have w2 : V.int .i64 (wr .i64 ((k : Int) - u + 1)) = vi (((k + 1 : Nat) : Int) - u) := by rw [wr_i64 (by omega) (by omega)]; congr 1; omega
        refine gP (aI @h10 <|@w2) ?_
        refine ⟨(k + 1, x, d), ⟨hd, ?_, ?_, ?_, ?_, ?_, ?_, ?_, ?_, by show k + 1 ≤ u; omega, hx, hdd, hR⟩, by show u - (k + 1) < u - k; omega⟩
        all_goals (try refine f0 (aI @h2 <|aI @h5 <|aI @h8 <|aI @h9 <|aI @h10 <|aI @r2 <|aI @r47 <|@ho) ?_);all_goals try exact True.intro
    · have hku : k = u := by have := of_decide_eq_false h; omega
      subst hku
      clear h
      rw [Nat.sub_self, ratK, ratE] at hR
      have hcx := canL_length_le.2 hx
      have q1 := P122 x (by omega)
      by_cases c : x ≤ 1099511627776
      · rw [if_pos c] at hR q1
        subst hR
        clear c hx hcx
        refine gPAS (aI @h2 <|aI @h5 <|aI @h8 <|aI @r2 <|aI @ho <|aI @co122 <|aI @sr122 <|@q1.iffx) ?_
        refine cnd (fun h => ?_) (fun h => ?_)
        · simp at h
        refine gPAS (aI @h2 <|aI @h5 <|aI @h8 <|aI @r2 <|@ho) ?_
        refine rPAS hd (aI @Tryd.results62 <|aI @h2 <|aI @h5 <|aI @h8 <|aI @r2 <|@ho) ?_
        try exact True.intro
      · rw [if_neg c] at hR q1
        subst hR
        clear c hx hcx
        refine gPAS (aI @h2 <|aI @h5 <|aI @h8 <|aI @r2 <|aI @ho <|aI @co122 <|aI @sr122 <|@q1.iffx) ?_
        refine cnd (fun h => ?_) (fun h => ?_)
        · refine gPAS (aI @h2 <|aI @h5 <|aI @h8 <|aI @r2 <|@ho) ?_
          refine rPAS hd (aI @Tryd.results62 <|aI @h2 <|aI @h5 <|aI @h8 <|aI @r2 <|@ho) ?_
          try exact True.intro
          rfl
        · simp at h
end Go.Proofs.YtpocekfifokndaaDoor
namespace Go.Proofs.YtpocekfifokndaaDoor
open Go Go.Ev Go.Pl
set_option maxRecDepth 100000
set_option maxHeartbeats 4000000
theorem P144 (n : Int) (h1 : -4611686018427387904 < n) (h2 : n < 4611686018427387904) : Ans X 144 [vi n] (.ret (vu n.natAbs)) := by
  refine call_of_X (fn := Tryd.f144) 1 Tryd.func144 rfl (by decide +kernel) rfl ?_ ?_ ?_ ?_
  · rfl
  · exact fun _ => rfl
  · intro v hv; injection hv with hv; subst hv; rfl
  intro s hs hd ho
  have h0 : s.t.get 0 = vi n := by subst hs; rfl
  clear hs
  refine gP @h0 ?_
  refine cnd (fun h => ?_) (fun h => ?_)
  · have h := of_decide_eq_true h
    have e1 : (0 : Int) - (n + 1) = ((n.natAbs - 1 : Nat) : Int) := by omega
    have e2 : ((n.natAbs - 1 : Nat) : Int) + 1 = (n.natAbs : Int) := by omega
    refine gP (aI @h0 <|aI @wr_i64 <|aI @wr_nat <|aI @wr_u64 <|aI @e1 <|@e2) ?_
    refine rP hd @Tryd.results144 ?_
    try exact True.intro
  · have h := of_decide_eq_false h
    have e1 : n = (n.natAbs : Int) := by omega
    rw [e1] at h0
    refine gP (aI @h0 <|aI @wr_nat <|@wr_u64) ?_
    refine rP hd @Tryd.results144 ?_
    try exact True.intro
theorem P143 (x y : Nat) (hx : x < 4611686018427387905) (hy : y < 4611686018427387905) : Ans X 143 [vu x, vu y] (.ret (vu (Nat.gcd x y))) := by
  refine call_of_X (fn := Tryd.f143) 2 Tryd.func143 rfl (by decide +kernel) rfl ?_ ?_ ?_ ?_
  · rfl
  · exact fun _ => rfl
  · intro v hv; injection hv with hv; subst hv; rfl
  intro s hs hd ho
  have h0 : s.t.get 0 = vu x := by subst hs; rfl
  have h1 : s.t.get 1 = vu y := by subst hs; rfl
  clear hs
  refine gP @Nat.zero_add ?_
  refine W_loopg (fun (w : Nat × Nat) s => s.dfs = [] ∧ s.m.out.length = 0 ∧ s.t.get 0 = vu w.1 ∧ s.t.get 1 = vu w.2 ∧ Nat.gcd x y = Nat.gcd w.1 w.2) (fun w => w.1) (x, y) ?_ ?_
  · refine ⟨hd, ?_, ?_, ?_, rfl⟩
    all_goals (try refine f0 (aI @h0 <|aI @h1 <|@ho) ?_);all_goals try exact True.intro
  clear hd h0 h1 ho hx hy
  rintro ⟨u, v⟩ s ⟨hd, ho, h0, h1, hg⟩
  dsimp only at h0 h1 hg
  refine gP (aI @h0 <|@h1) ?_
  refine cnd (fun h => ?_) (fun h => ?_)
  · have h : u ≠ 0 := by simpa using h
    have hv0 : ¬ ((u : Int) = 0) := by omega
    refine gP (aI @cast_tmod <|aI @h0 <|aI @h1 <|aI @hv0 <|@ho) ?_
    refine ⟨(v % u, u), ⟨hd, ?_, ?_, ?_, ?_⟩, Nat.mod_lt _ (by omega)⟩
    all_goals (try refine f0 (aI @h0 <|aI @h1 <|@ho) ?_);all_goals try exact True.intro
    rw [hg, Nat.gcd_rec]
  · have h : u = 0 := by simpa using h
    subst h
    rw [Nat.gcd_zero_left] at hg
    rw [hg]
    refine gP @h1 ?_
    refine rP hd @Tryd.results143 ?_
    try exact True.intro
theorem P125 (N D : Int) : Ans X 125 [.agg [vi N, vi D]] (.ret (.bool (isRat N D))) := by
  refine call_of_X (fn := Tryd.f125) 1 Tryd.func125 rfl (by decide +kernel) rfl ?_ ?_ ?_ ?_
  · rfl
  · exact fun _ => rfl
  · intro v hv; injection hv with hv; subst hv; rfl
  intro s hs hd ho
  have hm : s.m = ⟨.nil, []⟩ := by subst hs; rfl
  have h0 : s.t.get 0 = .agg [vi N, vi D] := by subst hs; rfl
  clear hs
  by_cases d1 : D ≥ 1
  · by_cases d2 : D ≤ 1048576
    · by_cases d3 : N ≥ -1099511627776
      · by_cases d4 : N ≤ 1099511627776
        · have q1 := P144 N (by omega) (by omega)
          have q2 := P144 D (by omega) (by omega)
          have q3 := P143 N.natAbs D.natAbs (by omega) (by omega)
          refine gPA (aI @h0 <|aI @hm <|aI @d1 <|aI @d2 <|aI @d3 <|aI @d4 <|aI @co144 <|aI @sr144 <|aI @co143 <|aI @sr143 <|aI @q1.iffx <|aI @q2.iffx <|@q3.iffx) ?_
          refine rP hd @Tryd.results125 ?_
          try exact True.intro
          congr 1
          unfold isRat
          rw [Bool.eq_iff_iff]
          simp
          omega
        · refine gPA (aI @h0 <|aI @hm <|aI @d1 <|aI @d2 <|aI @d3 <|@d4) ?_
          refine rP hd @Tryd.results125 ?_
          try exact True.intro
          congr 1
          unfold isRat
          simp; omega
      · refine gPA (aI @h0 <|aI @hm <|aI @d1 <|aI @d2 <|@d3) ?_
        refine rP hd @Tryd.results125 ?_
        try exact True.intro
        congr 1
        unfold isRat
        simp; omega
    · refine gPA (aI @h0 <|aI @hm <|aI @d1 <|@d2) ?_
      refine rP hd @Tryd.results125 ?_
      try exact True.intro
      congr 1
      unfold isRat
      simp; omega
  · refine gPA (aI @h0 <|aI @hm <|@d1) ?_
    refine rP hd @Tryd.results125 ?_
    try exact True.intro
    congr 1
    unfold isRat
    simp; omega
end Go.Proofs.YtpocekfifokndaaDoor
namespace Go.Proofs.YtpocekfifokndaaDoor
open Go Go.Ev Go.Pl
set_option maxRecDepth 100000
set_option maxHeartbeats 4000000
theorem fr_key {n d W K k q : Nat} (hd : 0 < d) (hn : 0 < n) (hW : 0 < W) (h1 : d * W = 60 ^ K) (h2 : n * 60 ^ k = d * q) : digB q = digB (n * W) ∧ (vz q : Int) - k = (vz (n * W) : Int) - K := by
  have e : q * 60 ^ K = n * W * 60 ^ k := by
    refine Nat.eq_of_mul_eq_mul_left hd ?_
    rw [← Nat.mul_assoc, ← h2, ← h1]
    grind
  have hq : 0 < q := Nat.pos_of_ne_zero fun e0 => by
    rw [e0, Nat.mul_zero] at h2
    exact absurd h2 (Nat.ne_of_gt (Nat.mul_pos hn (pow_pos k)))
  refine ⟨?_, ?_⟩
  · rw [← digB_shift q K, e, digB_shift]
  · have a1 := vz_shift hq K
    have a2 := vz_shift (Nat.mul_pos hn hW) k
    rw [e, a2] at a1
    omega
theorem P64 (N D : Int) : Ans X 64 [.agg [vi N, vi D]] (.ret (.tup [.agg [.sl (nats (frS N D).1), vi (frS N D).2.1], vi (frS N D).2.2])) := by
  refine call_of_X (fn := Tryd.f64) 1 Tryd.func64 rfl (by decide +kernel) rfl ?_ ?_ ?_ ?_
  · rfl
  · intro h; exact absurd h (by rw [sr64]; decide)
  · intro v hv; injection hv with hv; subst hv; rfl
  intro s hs hd ho
  have hm : s.m = ⟨.nil, []⟩ := by subst hs; rfl
  have h0 : s.t.get 0 = .agg [vi N, vi D] := by subst hs; rfl
  clear hs
  by_cases c1 : isRat N D = false
  · refine gPA (aI @h0 <|aI @hm <|aI @co125 <|aI @sr125 <|aI ((P125 N D).iffx) <|@c1) ?_
    refine cnd (fun h => ?_) (fun h => ?_)
    · refine gPA @hm ?_
      refine rPAS hd (aI @Tryd.results64 <|@hm) ?_
      try exact True.intro
      rw [frS, if_pos (.inl c1)]; rfl
    · simp at h
  have c1' : isRat N D = true := by simpa using c1
  by_cases c2 : N < 0
  · refine gPA (aI @h0 <|aI @hm <|aI @co125 <|aI @sr125 <|aI ((P125 N D).iffx) <|aI @c1' <|@c2) ?_
    refine cnd (fun h => ?_) (fun h => ?_)
    · refine gPA @hm ?_
      refine rPAS hd (aI @Tryd.results64 <|@hm) ?_
      try exact True.intro
      rw [frS, if_pos (.inr c2)]; rfl
    · simp at h
  rw [frS, if_neg (fun e => e.elim c1 c2)]
  have hb : 1 ≤ D ∧ D ≤ 1048576 ∧ N ≤ 1099511627776 := by
    have := of_decide_eq_true c1'
    omega
  obtain ⟨b1, b2, b3⟩ := hb
  refine gPA (aI @h0 <|aI @hm <|aI @co125 <|aI @sr125 <|aI ((P125 N D).iffx) <|aI @c1' <|@c2) ?_
  refine cnd (fun h => ?_) (fun h => ?_)
  · simp at h
  obtain ⟨n, rfl⟩ : ∃ n : Nat, N = n := ⟨N.toNat, by omega⟩
  obtain ⟨d, rfl⟩ : ∃ d : Nat, D = d := ⟨D.toNat, by omega⟩
  rw [Int.toNat_natCast, Int.toNat_natCast]
  have hd0 : 0 < d := by omega
  have q1 := P103 d hd0 (by omega)
  have hsp := split_eq hd0
  clear h c1 c1' c2
  by_cases hs1 : (splitF [2, 3, 5] d).2 = 1
  case neg =>
    rw [if_pos hs1]
    rw [decide_eq_false hs1] at q1
    refine gPA (aI @h0 <|aI @hm <|aI @co103 <|aI @sr103 <|@q1.iffx) ?_
    refine cnd (fun h => ?_) (fun h => ?_)
    · refine gPA @hm ?_
      refine rPAS hd (aI @Tryd.results64 <|@hm) ?_
      try exact True.intro
      rfl
    · simp at h
  rw [if_neg (fun e => e hs1)]
  have hsp := hsp hs1
  rw [decide_eq_true hs1] at q1
  generalize mult 2 d = i at hsp ⊢
  generalize mult 3 (rem 2 d) = j at hsp ⊢
  generalize mult 5 (rem 3 (rem 2 d)) = l at hsp ⊢
  obtain ⟨f1, f2, f3, f4⟩ := fr_bounds (N := n) (by omega) (by omega : d ≤ 1048576) hsp
  have hK : invK i j l ≤ 20 := by unfold invK; omega
  have hU := invW_pos i j l
  have hdU : d * invW i j l = 60 ^ invK i j l := by rw [hsp]; exact invW_mul i j l
  generalize invW i j l = U at *
  generalize invK i j l = K at *
  clear f1 f2 f3 hsp hs1
  refine gPA (aI @h0 <|aI @hm <|aI @co103 <|aI @sr103 <|@q1.iffx) ?_
  refine cnd (fun h => ?_) (fun h => ?_)
  · simp at h
  clear h q1
  refine gPA @hm ?_
  refine W_loopg (fun (k : Nat) s => s.dfs = [] ∧ s.m.out.length = 0 ∧ s.t.get 1 = .ptr ⟨0, 1, 0, 1⟩ 0 0 ∧ s.t.get 2 = .ptr ⟨0, 2, 0, 1⟩ 0 0 ∧ s.t.get 4 = vn k ∧ s.m.row ⟨0, 1, 0, 1⟩ = some ⟨1, 76, false, false, [.agg [vn n, vn d]]⟩ ∧
    s.m.row ⟨0, 2, 0, 1⟩ = some ⟨1, 54, false, false, [.agg [.rs ⟨0, 2, 1, 1⟩ 0 0 0, vi 0]]⟩ ∧ k ≤ K) (fun k => K - k) 0 ?_ ?_
  · refine ⟨hd, ?_, ?_, ?_, ?_, ?_, ?_, Nat.zero_le _⟩
    all_goals (try refine f0 (aI @h0 <|@hm) ?_);all_goals try exact True.intro
    all_goals rfl
  clear hd ho hm h0
  rintro k s ⟨hd, ho, h1, h2, h4, r1, r2, hk⟩
  have hcN := canL_length_le.2 (show n < 60 ^ 7 by omega)
  have hlt : n * 60 ^ k < 60 ^ 27 := by
    calc n * 60 ^ k < 60 ^ 7 * 60 ^ k := Nat.mul_lt_mul_of_pos_right (by omega) (pow_pos k)
      _ = 60 ^ (7 + k) := (Nat.pow_add ..).symm
      _ ≤ 60 ^ 27 := Nat.pow_le_pow_right (by decide) (by omega)
  have q95 := P95 n (by omega)
  have q108 := P108 k (by omega)
  have hck : (canL (60 ^ k)).length < 300 := by rw [canL_pow]; simp; omega
  have q84 := Q84 n (60 ^ k) (by omega) hck
  have q102 := P102 (n * 60 ^ k) d (Nat.lt_of_le_of_lt (canL_length_le.2 hlt) (by decide)) hd0 (by omega)
  refine gPAS (aI @h1 <|aI @h2 <|aI @h4 <|aI @r1 <|aI @r2 <|aI @ho <|aI @co95 <|aI @sr95 <|aI @q95.iffx <|aI @co108 <|aI @sr108 <|aI @q108.iffx <|aI @co84 <|aI @sr84 <|aI @q84.iffx <|aI @co102 <|aI @sr102 <|@q102.iffx) ?_
  have hmod : n * 60 ^ k % d = 0 → n * 60 ^ k = d * (n * 60 ^ k / d) := fun e => by
    have := Nat.div_add_mod (n * 60 ^ k) d
    omega
  have q109 := P109 (n * 60 ^ k / d) (-(k : Int)) (Nat.lt_of_le_of_lt (canL_length_le.2 (Nat.lt_of_le_of_lt (Nat.div_le_self _ _) hlt)) (by decide)) (by omega) (by omega)
  have wk : V.int .i64 (wr .i64 (0 - (k : Int))) = vi (-(k : Int)) := by rw [wr_i64 (by omega) (by omega)]; congr 1; omega
  refine cnd (fun h => ?_) (fun h => ?_)
  · have h : n * 60 ^ k % d = 0 := by have h' := eq_of_beq h; omega
    have hmod := hmod h
    have hR : placeV (n * 60 ^ k / d) (-(k : Int)) = .agg [.sl (nats (if (n : Int) = 0 then ([], 0, 0) else (digB (n * U), (vz (n * U) : Int) - K, 0) : List Nat × Int × Int).1), vi (if (n : Int) = 0 then ([], 0, 0) else (digB (n * U), (vz (n * U) : Int) - K, 0) : List Nat × Int × Int).2.1] := by
      rcases Nat.eq_zero_or_pos n with e | e
      · subst e
        rw [if_pos (show ((0 : Nat) : Int) = 0 from rfl), Nat.zero_mul, Nat.zero_div, placeV, digB_zero, if_pos rfl]
      · have hk2 := fr_key hd0 e hU hdU hmod
        have hq : ¬ n * 60 ^ k / d = 0 := fun e0 => by
          rw [e0, Nat.mul_zero] at hmod
          exact absurd hmod (Nat.ne_of_gt (Nat.mul_pos e (pow_pos k)))
        have hz : -(k : Int) + (vz (n * 60 ^ k / d) : Int) = (vz (n * U) : Int) - K := by have := hk2.2; omega
        rw [if_neg (by omega), placeV, if_neg hq, hk2.1, hz]
    have hR2 : (if (n : Int) = 0 then ([], 0, 0) else (digB (n * U), (vz (n * U) : Int) - K, 0) : List Nat × Int × Int).2.2 = 0 := by split <;> rfl
    generalize (if (n : Int) = 0 then ([], 0, 0) else (digB (n * U), (vz (n * U) : Int) - K, 0) : List Nat × Int × Int) = R at *
    obtain ⟨R1, R2, R3⟩ := R
    dsimp only at hR hR2
    subst hR2
    rw [hR] at q109
    generalize decide (goodP (n * 60 ^ k / d) (-(k : Int))) = bo at q109
    clear h hmod q95 q108 q84 q102 hlt hck hcN
    generalize n * 60 ^ k / d = q at *
    refine gPAS (aI @h1 <|aI @h2 <|aI @h4 <|aI @r1 <|aI @r2 <|aI @ho <|aI @wk <|aI @co109 <|aI @sr109 <|@q109.iffx) ?_
    refine rPAS hd (aI @Tryd.results64 <|aI @h1 <|aI @h2 <|aI @h4 <|aI @r1 <|aI @r2 <|@ho) ?_
    try exact True.intro
  · have h : ¬ n * 60 ^ k % d = 0 := by have h' := ne_of_beq_false h; omega
    have hkK : k < K := by
      rcases Nat.lt_or_ge k K with h' | h'
      · exact h'
      · obtain rfl : k = K := by omega
        rw [← hdU, Nat.mul_left_comm, Nat.mul_mod_right] at h
        exact absurd rfl h
    have w1 : V.int .i64 (wr .i64 ((k : Int) + 1)) = vn (k + 1) := by rw [wr_i64 (by omega) (by omega)]; rfl
    clear h hmod q95 q108 q84 q102 q109 hlt hck hcN
    refine gPAS (aI @h4 <|@w1) ?_
    refine ⟨k + 1, ⟨hd, ?_, ?_, ?_, ?_, ?_, ?_, by omega⟩, by omega⟩
    all_goals (try refine f0 (aI @h1 <|aI @h2 <|aI @r1 <|aI @r2 <|@ho) ?_);all_goals try exact True.intro
end Go.Proofs.YtpocekfifokndaaDoor
namespace Go.Proofs.YtpocekfifokndaaDoor
open Go Go.Ev Go.Pl
set_option maxRecDepth 100000
set_option maxHeartbeats 4000000
theorem frS_len (N D : Int) : (frS N D).1.length < 1000000000000 := by
  unfold frS
  split
  · exact Nat.zero_lt_succ _
  · rename_i h1
    split
    · exact Nat.zero_lt_succ _
    · rename_i h2
      split
      · exact Nat.zero_lt_succ _
      · dsimp only
        have c1 : isRat N D = true := by
          cases hq : isRat N D
          · exact absurd (.inl hq) h1
          · rfl
        have hb : 1 ≤ D ∧ D ≤ 1048576 ∧ N ≤ 1099511627776 := by
          have := of_decide_eq_true c1
          omega
        have hs1 : (splitF [2, 3, 5] D.toNat).2 = 1 := Decidable.of_not_not h2
        have hsp := split_eq (N := D.toNat) (by omega) hs1
        obtain ⟨_, _, _, f4⟩ := fr_bounds (N := N.toNat) (by omega) (by omega : D.toNat ≤ 1048576) hsp
        have := digB_len f4
        omega
theorem eqT3 (d : Nat) (a : Int) : eqT Tryd.prog (d + 1) 3 (vi a) (vi a) = some true := by
  unfold eqT
  simp only [Tryd.underlying3, if_true, beq_self_eq_true]
theorem part76a (a b : Int) : Go.Ev.part Tryd.prog 3 [vi a, vi b] 0 = some (vi a) := by
  unfold Go.Ev.part
  rw [a3, c3]; rfl
theorem part76b (a b : Int) : Go.Ev.part Tryd.prog 3 [vi a, vi b] 1 = some (vi b) := by
  unfold Go.Ev.part
  rw [a3, c3]; rfl
theorem eqT76 (a b : Int) : eqT Tryd.prog 8 76 (.agg [vi a, vi b]) (.agg [vi a, vi b]) = some true := by
  unfold eqT
  simp only [Tryd.underlying76, show Tryd.prog.stoodInHeld 76 = false by kernel_rfl, Bool.false_eq_true, if_false, eqFields, part76a, part76b, eqT3 6, String.reduceEq]
theorem eqOk76 (cx cy : Bool) (u v : List V) : eqOk Tryd.prog 76 cx cy (.agg u) (.agg v) = true := by
  simp only [eqOk, show Tryd.prog.eqGuardType Tryd.prog.depth 76 = false by kernel_rfl, Bool.not_false]
theorem P15 (p : List Int × Int) (N D : Int) : Ans X 15 [plcV p, .agg [vi N, vi D]] (.ret (.bool true)) := by
  refine call_of_X (fn := Tryd.f15) 2 Tryd.func15 rfl (by decide +kernel) rfl ?_ ?_ ?_ ?_
  · rfl
  · exact fun _ => rfl
  · intro v hv; injection hv with hv; subst hv; rfl
  intro s hs hd ho
  have hm : s.m = ⟨.nil, []⟩ := by subst hs; rfl
  have h0 : s.t.get 0 = .agg [.sl (ints p.1), vi p.2] := by subst hs; rfl
  have h1 : s.t.get 1 = .agg [vi N, vi D] := by subst hs; rfl
  clear hs
  have q61 := P61 p
  have q62 := P62 p
  have q63 := P63 N D
  have q64 := P64 N D
  have q48 := P48 (frS N D).1 (frS N D).2.1 (frS_len N D)
  generalize ratS p = R at *
  generalize frS N D = Q at *
  obtain ⟨R1, R2, R3⟩ := R
  obtain ⟨Q1, Q2, Q3⟩ := Q
  dsimp only at q61 q62 q63 q64 q48
  refine gPAS (aI @h0 <|aI @h1 <|aI @hm <|aI @co61 <|aI @sr61 <|aI @q61.iffx <|aI @co62 <|aI @sr62 <|aI @q62.iffx <|aI @co63 <|aI @sr63 <|aI @q63.iffx <|aI @co64 <|aI @sr64 <|aI @q64.iffx <|aI @co48 <|aI @sr48 <|aI @q48.iffx <|aI @co26 <|aI @sr26 <|aI @P26.iffx <|aI @eqT76 <|aI @eqOk76 <|@bne_self_eq_false.{0}) ?_
  refine rPAS hd @Tryd.results15 ?_
  try exact True.intro
end Go.Proofs.YtpocekfifokndaaDoor
namespace Go.Proofs.YtpocekfifokndaaDoor
open Go Go.Ev Go.Pl
set_option maxRecDepth 100000
theorem typ76 {B n : Nat} {u : V} (h : Typ X.P B (n + 2) 76 u) : ∃ a b : Int, u = .agg [vi a, vi b] := by
  rw [Typ] at h
  simp only [X_P, Tryd.underlying76] at h
  obtain ⟨us, rfl, hl, hu⟩ := h
  match us, hl with
  | [x, y], _ =>
    obtain ⟨a, rfl, _⟩ := typ3 (hu 0 _ x rfl rfl)
    obtain ⟨b, rfl, _⟩ := typ3 (hu 1 _ y rfl rfl)
    exact ⟨a, b, rfl⟩
theorem typ84 {B n : Nat} {u : V} (h : Typ X.P B (n + 2) 84 u) : ∃ a b : Int, u = .agg [vi a, vi b] := by
  rw [Typ] at h
  simp only [X_P, Tryd.underlying84] at h
  obtain ⟨us, rfl, hl, hu⟩ := h
  match us, hl with
  | [x, y], _ =>
    obtain ⟨a, rfl, _⟩ := typ3 (hu x (by simp))
    obtain ⟨b, rfl, _⟩ := typ3 (hu y (by simp))
    exact ⟨a, b, rfl⟩
end Go.Proofs.YtpocekfifokndaaDoor
