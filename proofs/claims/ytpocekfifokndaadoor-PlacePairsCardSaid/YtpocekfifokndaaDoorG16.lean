/- Part 16 of the proof: an evaluator of the program, proved sound against the model, and what the functions of the program compute. No condition but those each theorem states. -/
import Derived.Test.YtpocekfifokndaaDoorG2
import Derived.Test.YtpocekfifokndaaDoorG7
import Derived.Test.YtpocekfifokndaaDoorG6
import Derived.Test.YtpocekfifokndaaDoorG8
import Derived.Test.YtpocekfifokndaaDoorG3
set_option linter.unusedSimpArgs false
set_option linter.unusedVariables false
namespace Go.Proofs.YtpocekfifokndaaDoor
open Go Go.Ev Go.Pl
set_option maxRecDepth 100000
set_option maxHeartbeats 4000000
abbrev pOk (n : Nat) : Prop := (splitF [2, 3, 5] n).2 = 1 ∧ n % 60 ≠ 0
def pairL : Nat → List Nat
  | 0 => []
  | k + 1 => if pOk (k + 1) then pairL k ++ [k + 1] else pairL k
theorem pairL_len : ∀ k, (pairL k).length ≤ k
  | 0 => Nat.le_refl _
  | k + 1 => by
    have := pairL_len k
    rw [pairL]
    split
    · rw [List.length_append, List.length_singleton]; omega
    · omega
abbrev P3l : List Nat := [2, 3, 5]
theorem P3l_get {j : Nat} (h : j < 3) : ∃ p, P3l[j]? = some p ∧ 2 ≤ p ∧ p ≤ 5 ∧ P3l.drop j = p :: P3l.drop (j + 1) := by
  match j, h with
  | 0, _ => exact ⟨2, rfl, by decide, by decide, rfl⟩
  | 1, _ => exact ⟨3, rfl, by decide, by decide, rfl⟩
  | 2, _ => exact ⟨5, rfl, by decide, by decide, rfl⟩
theorem P53 (d : Nat) (hd1 : 1 ≤ d) (hd3 : d ≤ 3) : Ans X 53 [vn d] (.ret (.tup [.sl (pairsV (pairL (60 ^ d - 1))), vi 0])) := by
  refine call_of_X (fn := Tryd.f53) 1 Tryd.func53 rfl (by decide +kernel) rfl ?_ ?_ ?_ ?_
  · rfl
  · intro h; exact absurd h (by rw [sr53]; decide)
  · intro v hv; injection hv with hv; subst hv; rfl
  intro s hs hd ho
  have hm : s.m = ⟨.nil, []⟩ := by subst hs; rfl
  have h0 : s.t.get 0 = vn d := by subst hs; rfl
  clear hs
  have c1 : ¬ (d : Int) < 1 := by omega
  have c2 : ¬ (d : Int) > 3 := by omega
  refine gP (aI @h0 <|aI @hm <|aI @c1 <|@c2) ?_
  refine cnd (fun h => ?_) (fun h => ?_)
  · simp at h
  clear h
  refine gP @h0 ?_
  refine W_loopg (fun (k : Nat) s => s.dfs = [] ∧ s.m = ({ own := Trie.nil, out := [] } : Mem).new 2 1 0 true [] ∧ s.t.get 4 = vn (60 ^ k) ∧ s.t.get 20 = vn d ∧ s.t.get 21 = vn k ∧ k ≤ d) (fun k => d - k) 0 ?_ ?_
  · refine ⟨hd, ?_, ?_, ?_, ?_, Nat.zero_le _⟩
    all_goals (try refine f0 (aI @h0 <|@hm) ?_);all_goals try exact True.intro
    all_goals rfl
  clear hd h0 hm ho c1 c2
  rintro k s ⟨hd, hm, h4, h20, h21, hk⟩
  refine gP (aI @h20 <|@h21) ?_
  refine cnd (fun h => ?_) (fun h => ?_)
  · have hkd : k < d := by have := of_decide_eq_true h; omega
    have hp : 60 ^ (k + 1) ≤ 60 ^ 3 := Nat.pow_le_pow_right (by decide) (by omega)
    have e1 : V.int .i64 (wr .i64 (((60 ^ k : Nat) : Int) * 60)) = vn (60 ^ (k + 1)) := by
      rw [show ((60 ^ k : Nat) : Int) * 60 = ((60 ^ (k + 1) : Nat) : Int) by rw [Nat.pow_succ]; rfl, wr_nat (by omega)]
    have e2 : V.int .i64 (wr .i64 ((k : Int) + 1)) = vn (k + 1) := by rw [wr_i64 (by omega) (by omega)]; rfl
    clear h hp
    refine gP (aI @h4 <|aI @h21 <|aI @e1 <|@e2) ?_
    refine ⟨k + 1, ⟨hd, ?_, ?_, ?_, ?_, hkd⟩, by omega⟩
    all_goals (try refine f0 (aI @h20 <|@hm) ?_);all_goals try exact True.intro
  have hkd : k = d := by have := of_decide_eq_false h; omega
  subst hkd
  clear h h20 h21 hk
  have hE : 60 ^ k ≤ 60 ^ 3 := Nat.pow_le_pow_right (by decide) hd3
  have hE1 : 1 ≤ 60 ^ k := Nat.pow_pos (by decide)
  generalize 60 ^ k = E at *
  clear hd1 hd3
  refine gP @Nat.zero_add ?_
  refine W_loopg (fun (n : Nat) s => s.dfs = [] ∧ s.m.out.length = 0 ∧ s.t.get 4 = vn E ∧ s.t.get 6 = vn (n + 1) ∧ HeldD s.m 0 5 1 69 (s.t.get 5) (pairsV (pairL n)) ∧ n + 1 ≤ E) (fun n => E - n) 0 ?_ ?_
  · refine ⟨hd, ?_, ?_, ?_, ⟨1, 0, ?_, ?_, .inr ⟨rfl, rfl⟩⟩, hE1⟩
    all_goals (try refine fS (aI @h4 <|@hm) ?_);all_goals try exact True.intro
    all_goals rfl
  clear hd h4 hm
  rintro n s ⟨hd, ho, h4, h6, ⟨g, ty, h5, r5, hty⟩, hn⟩
  have hln := pairL_len n
  rw [pairsV_length] at h5 hty
  refine gP (aI @h4 <|@h6) ?_
  refine cnd (fun h => ?_) (fun h => ?_)
  · have hnE : n + 1 < E := by have := of_decide_eq_true h; omega
    clear h
    have e1 : V.int .i64 (wr .i64 (((n + 1 : Nat) : Int) + 1)) = vn (n + 1 + 1) := by rw [wr_i64 (by omega) (by omega)]; rfl
    have hL : pairL (n + 1) = if pOk (n + 1) then pairL n ++ [n + 1] else pairL n := rfl
    have hSR : (splitF [2, 3, 5] (n + 1)).2 = (splitF [2, 3, 5] (n + 1)).2 := rfl
    generalize hR : (splitF [2, 3, 5] (n + 1)).2 = R at hSR
    unfold pOk at hL
    rw [hR] at hL
    clear hSR
    refine gPA @h6 ?_
    refine W_loopg (fun (w : Nat × Nat) s => s.dfs = [] ∧ s.m.out.length = 0 ∧ s.t.get 4 = vn E ∧ s.t.get 5 = .rs ⟨0, 5, 1, g⟩ ty 0 (pairL n).length ∧ s.t.get 6 = vn (n + 1) ∧ s.t.get 7 = vn w.2 ∧ s.t.get 32 = .agg (nats P3l) ∧ s.t.get 33 = vn w.1 ∧
      s.m.row ⟨0, 5, 1, g⟩ = some ⟨g, ty, true, false, pairsV (pairL n)⟩ ∧ w.1 ≤ 3 ∧ 0 < w.2 ∧ w.2 ≤ n + 1 ∧ (splitF (P3l.drop w.1) w.2).2 = R) (fun w => 3 - w.1) (0, n + 1) ?_ ?_
    · refine ⟨hd, ?_, ?_, ?_, ?_, ?_, ?_, ?_, ?_, Nat.zero_le _, Nat.zero_lt_succ _, Nat.le_refl _, hR⟩
      all_goals (try refine f0 (aI @h4 <|aI @h5 <|aI @h6 <|aI @r5 <|@ho) ?_);all_goals try exact True.intro
      all_goals rfl
    clear hd ho h4 h5 h6 r5 hR
    rintro ⟨j, r⟩ s ⟨hd, ho, h4, h5, h6, h7, h32, h33, r5, hj, hr0, hrn, hR⟩
    dsimp only at h7 h33 hj hr0 hrn hR
    refine gP @h33 ?_
    refine cnd (fun h => ?_) (fun h => ?_)
    · have hj3 : j < 3 := by have := of_decide_eq_true h; omega
      clear h
      obtain ⟨p, hp, hp2, hp5, hdrop⟩ := P3l_get hj3
      rw [hdrop, splitF] at hR
      dsimp only at hR
      have gp : (nats P3l)[j]? = some (vn p) := by rw [nats, List.getElem?_map, hp]; rfl
      have j1 : (j : Int) < 3 := by omega
      have j2 : (0 : Int) ≤ (j : Int) := by omega
      have w2 : V.int .i64 (wr .i64 ((j : Int) + 1)) = vn (j + 1) := by rw [wr_i64 (by omega) (by omega)]; rfl
      have hpne : ¬ ((p : Int) = 0) := by omega
      clear hdrop hp
      refine gPA (aI @h7 <|aI @h32 <|aI @h33 <|aI @gp <|aI @j1 <|@j2) ?_
      refine W_loopg (fun (x : Nat) s => s.dfs = [] ∧ s.m.out.length = 0 ∧ s.t.get 4 = vn E ∧ s.t.get 5 = .rs ⟨0, 5, 1, g⟩ ty 0 (pairL n).length ∧ s.t.get 6 = vn (n + 1) ∧ s.t.get 7 = vn x ∧ s.t.get 9 = vn p ∧ s.t.get 32 = .agg (nats P3l) ∧ s.t.get 33 = vn j ∧
        s.m.row ⟨0, 5, 1, g⟩ = some ⟨g, ty, true, false, pairsV (pairL n)⟩ ∧ 0 < x ∧ x ≤ n + 1 ∧ rem p r = rem p x) (fun x => x) r ?_ ?_
      · refine ⟨hd, ?_, ?_, ?_, ?_, ?_, ?_, ?_, ?_, ?_, hr0, hrn, rfl⟩
        all_goals (try refine f0 (aI @h4 <|aI @h5 <|aI @h6 <|aI @h7 <|aI @h32 <|aI @h33 <|aI @r5 <|@ho) ?_);all_goals try exact True.intro
        all_goals first | rfl | simp
      clear hd ho h4 h5 h6 h7 h32 h33 r5 hr0 hrn
      rintro x s ⟨hd, ho, h4, h5, h6, h7, h9, h32, h33, r5, hx0, hxn, hre⟩
      refine gPC (aI @cast_tmod <|aI @h7 <|aI @h9 <|@hpne) ?_
      refine cnd (fun h => ?_) (fun h => ?_)
      · have h : x % p = 0 := by have h' := eq_of_beq h; omega
        have e : V.int .i64 (wr .i64 (Int.tdiv (x : Int) (p : Int))) = vn (x / p) := by
          rw [cast_tdiv, wr_nat]
          have := Nat.div_le_self x p
          omega
        have hd2 := Nat.div_lt_self hx0 (by omega : 1 < p)
        have hdp : 0 < x / p := Nat.div_pos (Nat.le_of_dvd hx0 (Nat.dvd_of_mod_eq_zero h)) (by omega)
        refine gPC (aI @h7 <|aI @h9 <|aI @hpne <|@e) ?_
        refine ⟨x / p, ⟨hd, ?_, ?_, ?_, ?_, ?_, ?_, ?_, ?_, ?_, hdp, by omega, ?_⟩, hd2⟩
        all_goals (try refine f0 (aI @h4 <|aI @h5 <|aI @h6 <|aI @h9 <|aI @h32 <|aI @h33 <|aI @r5 <|@ho) ?_);all_goals try exact True.intro
        rw [hre, rem_yes (by omega) hx0 h]
      have h : x % p ≠ 0 := by have h' := ne_of_beq_false h; omega
      rw [hre, rem_no h] at hR
      refine gP (aI @h33 <|@w2) ?_
      refine ⟨(j + 1, x), ⟨hd, ?_, ?_, ?_, ?_, ?_, ?_, ?_, ?_, by show j + 1 ≤ 3; omega, hx0, hxn, hR⟩, by show 3 - (j + 1) < 3 - j; omega⟩
      all_goals (try refine f0 (aI @h4 <|aI @h5 <|aI @h6 <|aI @h7 <|aI @h32 <|aI @r5 <|@ho) ?_);all_goals try exact True.intro
    · have hj3 : j = 3 := by have := of_decide_eq_false h; omega
      subst hj3
      clear h
      have hR : r = R := hR
      subst hR
      have m60 : Int.tmod ((n + 1 : Nat) : Int) 60 = (((n + 1) % 60 : Nat) : Int) := rfl
      by_cases d1 : r = 1
      · by_cases d2 : (n + 1) % 60 = 0
        · have e2 : ((((n + 1) % 60 : Nat) : Int) == 0) = true := by rw [d2]; rfl
          have e3 : (((r : Nat) : Int) != 1) = false := by rw [d1]; rfl
          rw [if_neg (fun e => e.2 d2)] at hL
          refine gPC (aI @h6 <|aI @h7 <|aI @m60 <|aI @e2 <|@e3) ?_
          refine cnd (fun h => ?_) (fun h => ?_)
          · refine gP (aI @h6 <|@e1) ?_
            refine ⟨n + 1, ⟨hd, ?_, ?_, ?_, ⟨g, ty, ?_, ?_, ?_⟩, by omega⟩, by omega⟩
            all_goals (try refine f0 (aI @h4 <|aI @h5 <|aI @h6 <|aI @r5 <|aI @ho <|aI @hL <|@pairsV_length) ?_);all_goals try exact True.intro
            exact hty
          · simp at h
        · have e2 : ((((n + 1) % 60 : Nat) : Int) == 0) = false := by rw [beq_eq_false_iff_ne]; omega
          have e3 : (((r : Nat) : Int) != 1) = false := by rw [d1]; rfl
          rw [if_pos ⟨d1, d2⟩] at hL
          have q36 := P36 ((n + 1 : Nat) : Int)
          have hof : ofS ((n + 1 : Nat) : Int) = (digB (n + 1), 0) := by
            rw [ofS, if_neg (by omega), Int.toNat_natCast]
          rw [hof] at q36
          have q32 := P32 (zi (digB (n + 1)))
          rw [← nats_zi] at q32
          have hcnt : (pairL n).length < 1000000 := by omega
          clear hof hR d2
          refine gPC (aI @h6 <|aI @h7 <|aI @m60 <|aI @e2 <|@e3) ?_
          refine cnd (fun h => ?_) (fun h => ?_)
          · simp at h
          refine gPAS (aI @h4 <|aI @h5 <|aI @h6 <|aI @ho <|aI @r5 <|aI @hty <|aI @co36 <|aI @sr36 <|aI @q36.iffx <|aI @co32 <|aI @sr32 <|aI @q32.iffx <|aI @pairsV_length <|aI @cut_pairs <|aI @pairsV_snoc <|@e1) ?_
          refine ⟨n + 1, ⟨hd, ?_, ?_, ?_, ⟨g + 1, 69, ?_, ?_, .inl rfl⟩, by omega⟩, by omega⟩
          all_goals (try refine fS (aI @h4 <|aI @h5 <|aI @h6 <|aI @r5 <|aI @ho <|aI @hL <|@pairsV_length) ?_);all_goals try exact True.intro
      · have e3 : (((r : Nat) : Int) != 1) = true := by rw [bne_iff_ne]; omega
        rw [if_neg (fun e => d1 e.1)] at hL
        refine gPC (aI @h6 <|aI @h7 <|@e3) ?_
        refine cnd (fun h => ?_) (fun h => ?_)
        · refine gP (aI @h6 <|@e1) ?_
          refine ⟨n + 1, ⟨hd, ?_, ?_, ?_, ⟨g, ty, ?_, ?_, ?_⟩, by omega⟩, by omega⟩
          all_goals (try refine f0 (aI @h4 <|aI @h5 <|aI @h6 <|aI @r5 <|aI @ho <|aI @hL <|@pairsV_length) ?_);all_goals try exact True.intro
          exact hty
        · simp at h
  · have hnE : n + 1 = E := by have := of_decide_eq_false h; omega
    subst hnE
    clear h
    rw [Nat.add_sub_cancel]
    refine gPS (aI @h5 <|aI @r5 <|@ho) ?_
    refine rPAS hd (aI @Tryd.results53 <|aI @h5 <|aI @r5 <|aI @ho <|aI @pairsV_length <|@cut_pairs) ?_
    try exact True.intro
end Go.Proofs.YtpocekfifokndaaDoor
namespace Go.Proofs.YtpocekfifokndaaDoor
open Go Go.Ev Go.Pl
set_option maxRecDepth 100000
set_option maxHeartbeats 4000000
theorem P54 (d : Nat) (hd1 : 1 ≤ d) (hd3 : d ≤ 3) : Ans X 54 [vn d] (.ret (.tup [.sl (pairsV (pairL (60 ^ d - 1))), vi 0])) := by
  refine call_of_X (fn := Tryd.f54) 1 Tryd.func54 rfl (by decide +kernel) rfl ?_ ?_ ?_ ?_
  · rfl
  · intro h; exact absurd h (by rw [sr54]; decide)
  · intro v hv; injection hv with hv; subst hv; rfl
  intro s hs hd ho
  have hm : s.m = ⟨.nil, []⟩ := by subst hs; rfl
  have h0 : s.t.get 0 = vn d := by subst hs; rfl
  clear hs
  have c1 : ¬ (d : Int) < 1 := by omega
  have c2 : ¬ (d : Int) > 3 := by omega
  refine gP (aI @h0 <|aI @hm <|aI @c1 <|@c2) ?_
  refine cnd (fun h => ?_) (fun h => ?_)
  · simp at h
  clear h
  refine gP @h0 ?_
  refine W_loopg (fun (k : Nat) s => s.dfs = [] ∧ s.m = ({ own := Trie.nil, out := [] } : Mem).new 2 1 0 true [] ∧ s.t.get 0 = vn d ∧ s.t.get 4 = vn (60 ^ k) ∧ s.t.get 5 = vn k ∧ k ≤ d) (fun k => d - k) 0 ?_ ?_
  · refine ⟨hd, ?_, ?_, ?_, ?_, Nat.zero_le _⟩
    all_goals (try refine f0 (aI @h0 <|@hm) ?_);all_goals try exact True.intro
    all_goals rfl
  clear hd h0 hm ho c1 c2
  rintro k s ⟨hd, hm, h0, h4, h5, hk⟩
  refine gP (aI @h0 <|@h5) ?_
  refine cnd (fun h => ?_) (fun h => ?_)
  · have hkd : k < d := by have := of_decide_eq_true h; omega
    have hp : 60 ^ (k + 1) ≤ 60 ^ 3 := Nat.pow_le_pow_right (by decide) (by omega)
    have e1 : V.int .i64 (wr .i64 (((60 ^ k : Nat) : Int) * 60)) = vn (60 ^ (k + 1)) := by
      rw [show ((60 ^ k : Nat) : Int) * 60 = ((60 ^ (k + 1) : Nat) : Int) by rw [Nat.pow_succ]; rfl, wr_nat (by omega)]
    have e2 : V.int .i64 (wr .i64 ((k : Int) + 1)) = vn (k + 1) := by rw [wr_i64 (by omega) (by omega)]; rfl
    clear h hp
    refine gP (aI @h4 <|aI @h5 <|aI @e1 <|@e2) ?_
    refine ⟨k + 1, ⟨hd, ?_, ?_, ?_, ?_, hkd⟩, by omega⟩
    all_goals (try refine f0 (aI @h0 <|@hm) ?_);all_goals try exact True.intro
  have hkd : k = d := by have := of_decide_eq_false h; omega
  subst hkd
  clear h h0 h5 hk
  have hE : 60 ^ k ≤ 60 ^ 3 := Nat.pow_le_pow_right (by decide) hd3
  have hE1 : 1 ≤ 60 ^ k := Nat.pow_pos (by decide)
  generalize 60 ^ k = E at *
  clear hd1 hd3
  refine gP @Nat.zero_add ?_
  refine W_loopg (fun (n : Nat) s => s.dfs = [] ∧ s.m.out.length = 0 ∧ s.t.get 4 = vn E ∧ s.t.get 7 = vn (n + 1) ∧ HeldD s.m 0 6 1 69 (s.t.get 6) (pairsV (pairL n)) ∧ n + 1 ≤ E) (fun n => E - n) 0 ?_ ?_
  · refine ⟨hd, ?_, ?_, ?_, ⟨1, 0, ?_, ?_, .inr ⟨rfl, rfl⟩⟩, hE1⟩
    all_goals (try refine fS (aI @h4 <|@hm) ?_);all_goals try exact True.intro
    all_goals rfl
  clear hd h4 hm
  rintro n s ⟨hd, ho, h4, h7, ⟨g, ty, h6, r6, hty⟩, hn⟩
  have hln := pairL_len n
  rw [pairsV_length] at h6 hty
  refine gP (aI @h4 <|@h7) ?_
  refine cnd (fun h => ?_) (fun h => ?_)
  · have hnE : n + 1 < E := by have := of_decide_eq_true h; omega
    clear h
    have e1 : V.int .i64 (wr .i64 (((n + 1 : Nat) : Int) + 1)) = vn (n + 1 + 1) := by rw [wr_i64 (by omega) (by omega)]; rfl
    have hL : pairL (n + 1) = if pOk (n + 1) then pairL n ++ [n + 1] else pairL n := rfl
    have m60 : Int.tmod ((n + 1 : Nat) : Int) 60 = (((n + 1) % 60 : Nat) : Int) := rfl
    have q103 := P103 (n + 1) (by omega) (by omega)
    have q104 := P104 (n + 1) (by omega)
    unfold pairV at q104
    have hcnt : (pairL n).length < 1000000 := by omega
    by_cases d2 : (n + 1) % 60 = 0
    · have e2 : ((((n + 1) % 60 : Nat) : Int) != 0) = false := by rw [d2]; rfl
      rw [if_neg (fun e => e.2 d2)] at hL
      refine gPC (aI @h7 <|aI @m60 <|@e2) ?_
      refine cnd (fun h => ?_) (fun h => ?_)
      · simp at h
      · refine gP (aI @h7 <|@e1) ?_
        refine ⟨n + 1, ⟨hd, ?_, ?_, ?_, ⟨g, ty, ?_, ?_, ?_⟩, by omega⟩, by omega⟩
        all_goals (try refine f0 (aI @h4 <|aI @h6 <|aI @r6 <|aI @ho <|aI @hL <|@pairsV_length) ?_);all_goals try exact True.intro
        exact hty
    · have e2 : ((((n + 1) % 60 : Nat) : Int) != 0) = true := by rw [bne_iff_ne]; omega
      by_cases d1 : (splitF [2, 3, 5] (n + 1)).2 = 1
      · rw [if_pos ⟨d1, d2⟩] at hL
        rw [decide_eq_true d1] at q103
        refine gPC (aI @h7 <|aI @m60 <|aI @e2 <|aI @co103 <|aI @sr103 <|@q103.iffx) ?_
        refine cnd (fun h => ?_) (fun h => ?_)
        · refine gPAS (aI @h4 <|aI @h6 <|aI @h7 <|aI @ho <|aI @r6 <|aI @hty <|aI @co104 <|aI @sr104 <|aI @q104.iffx <|aI @pairsV_length <|aI @cut_pairs <|aI @pairsV_snoc <|@e1) ?_
          refine ⟨n + 1, ⟨hd, ?_, ?_, ?_, ⟨g + 1, 69, ?_, ?_, .inl rfl⟩, by omega⟩, by omega⟩
          all_goals (try refine fS (aI @h4 <|aI @h6 <|aI @h7 <|aI @r6 <|aI @ho <|aI @hL <|@pairsV_length) ?_);all_goals try exact True.intro
        · simp at h
      · rw [if_neg (fun e => d1 e.1)] at hL
        rw [decide_eq_false d1] at q103
        refine gPC (aI @h7 <|aI @m60 <|aI @e2 <|aI @co103 <|aI @sr103 <|@q103.iffx) ?_
        refine cnd (fun h => ?_) (fun h => ?_)
        · simp at h
        · refine gP (aI @h7 <|@e1) ?_
          refine ⟨n + 1, ⟨hd, ?_, ?_, ?_, ⟨g, ty, ?_, ?_, ?_⟩, by omega⟩, by omega⟩
          all_goals (try refine f0 (aI @h4 <|aI @h6 <|aI @r6 <|aI @ho <|aI @hL <|@pairsV_length) ?_);all_goals try exact True.intro
          exact hty
  · have hnE : n + 1 = E := by have := of_decide_eq_false h; omega
    subst hnE
    clear h
    rw [Nat.add_sub_cancel]
    refine gPS (aI @h6 <|aI @r6 <|@ho) ?_
    refine rPAS hd (aI @Tryd.results54 <|aI @h6 <|aI @r6 <|aI @ho <|aI @pairsV_length <|@cut_pairs) ?_
    try exact True.intro
end Go.Proofs.YtpocekfifokndaaDoor
namespace Go.Proofs.YtpocekfifokndaaDoor
open Go Go.Ev Go.Pl
set_option maxRecDepth 100000
set_option maxHeartbeats 4000000
theorem recL16 (a : List Int) : (recS a).1.length ≤ 16 := by
  unfold recS
  split
  · exact Nat.zero_le _
  · split
    · exact Nat.zero_le _
    · dsimp only; omega
theorem pairsV_pr (l : List Nat) : pairsV l = (l.map fun f => (digB f, (recS (zi (digB f))).1)).map prV := by
  rw [List.map_map]; rfl
theorem pairL_le : ∀ k, ∀ f ∈ pairL k, f ≤ k
  | 0, f, h => by simp [pairL] at h
  | k + 1, f, h => by
    rw [pairL] at h
    split at h
    · rcases List.mem_append.1 h with h | h
      · have := pairL_le k f h; omega
      · have := List.mem_singleton.1 h; omega
    · have := pairL_le k f h; omega
theorem P53e (n : Int) (hb : n < 1 ∨ n > 3) : Ans X 53 [vi n] (.ret (.tup [.sl [], vi 8])) := by
  refine call_of_X (fn := Tryd.f53) 1 Tryd.func53 rfl (by decide +kernel) rfl ?_ ?_ ?_ ?_
  · rfl
  · intro h; exact absurd h (by rw [sr53]; decide)
  · intro v hv; injection hv with hv; subst hv; rfl
  intro s hs hd ho
  have hm : s.m = ⟨.nil, []⟩ := by subst hs; rfl
  have h0 : s.t.get 0 = vi n := by subst hs; rfl
  clear hs
  by_cases c1 : n < 1 <;> by_cases c2 : n > 3
  all_goals try (exfalso; omega)
  all_goals
    refine gP (aI @h0 <|aI @hm <|aI @c1 <|@c2) ?_
    refine cnd (fun h => ?_) (fun h => ?_)
    · refine gP @hm ?_
      refine rPAS hd (aI @Tryd.results53 <|@hm) ?_
      try exact True.intro
      rfl
    · simp at h
theorem P54e (n : Int) (hb : n < 1 ∨ n > 3) : Ans X 54 [vi n] (.ret (.tup [.sl [], vi 8])) := by
  refine call_of_X (fn := Tryd.f54) 1 Tryd.func54 rfl (by decide +kernel) rfl ?_ ?_ ?_ ?_
  · rfl
  · intro h; exact absurd h (by rw [sr54]; decide)
  · intro v hv; injection hv with hv; subst hv; rfl
  intro s hs hd ho
  have hm : s.m = ⟨.nil, []⟩ := by subst hs; rfl
  have h0 : s.t.get 0 = vi n := by subst hs; rfl
  clear hs
  by_cases c1 : n < 1 <;> by_cases c2 : n > 3
  all_goals try (exfalso; omega)
  all_goals
    refine gP (aI @h0 <|aI @hm <|aI @c1 <|@c2) ?_
    refine cnd (fun h => ?_) (fun h => ?_)
    · refine gP @hm ?_
      refine rPAS hd (aI @Tryd.results54 <|@hm) ?_
      try exact True.intro
      rfl
    · simp at h
theorem pairs_both (n : Int) : ∃ (ps : List (List Nat × List Nat)) (e : Int), Ans X 53 [vi n] (.ret (.tup [.sl (ps.map prV), vi e])) ∧ Ans X 54 [vi n] (.ret (.tup [.sl (ps.map prV), vi e])) ∧ Ans X 42 [.sl (ps.map prV), .sl (ps.map prV)] (.ret (.bool true)) := by
  by_cases hb : n < 1 ∨ n > 3
  · exact ⟨[], 8, P53e n hb, P54e n hb, P42 [] (by decide) (by simp)⟩
  · obtain ⟨d, rfl⟩ : ∃ d : Nat, n = d := ⟨n.toNat, by omega⟩
    have q1 := P53 d (by omega) (by omega)
    have q2 := P54 d (by omega) (by omega)
    have hE : 60 ^ d ≤ 60 ^ 3 := Nat.pow_le_pow_right (by decide) (by omega)
    rw [pairsV_pr] at q1 q2
    refine ⟨_, 0, q1, q2, P42 _ ?_ ?_⟩
    · rw [List.length_map]
      have := pairL_len (60 ^ d - 1)
      omega
    · intro p hp
      obtain ⟨f, hf, rfl⟩ := List.mem_map.1 hp
      have h1 := pairL_le _ f hf
      have h2 := digB_len (N := f) (n := 3) (by omega)
      have h3 := recL16 (zi (digB f))
      refine ⟨?_, ?_⟩ <;> dsimp only <;> omega
theorem P12 (n m : Int) : Ans X 12 [vi n, vi m] (.ret (.bool true)) := by
  refine call_of_X (fn := Tryd.f12) 2 Tryd.func12 rfl (by decide +kernel) rfl ?_ ?_ ?_ ?_
  · rfl
  · exact fun _ => rfl
  · intro v hv; injection hv with hv; subst hv; rfl
  intro s hs hd ho
  have h0 : s.t.get 0 = vi n := by subst hs; rfl
  have h1 : s.t.get 1 = vi m := by subst hs; rfl
  clear hs
  have q33 := P33 m 16 (by decide)
  by_cases c : n = 3
  · have e3 : (n == 3) = true := by rw [c]; rfl
    refine gP (aI @h0 <|aI @h1 <|aI @e3 <|aI @co33 <|aI @sr33 <|@q33.iffx) ?_
    refine cnd (fun h => ?_) (fun h => ?_)
    · obtain ⟨ps, e, q1, q2, q3⟩ := pairs_both 2
      generalize ps.map prV = L at *
      refine gPAS (aI @h0 <|aI @ho <|aI @co53 <|aI @sr53 <|aI @q1.iffx <|aI @co54 <|aI @sr54 <|aI @q2.iffx <|aI @co42 <|aI @sr42 <|aI @q3.iffx <|aI @co26 <|aI @sr26 <|@P26.iffx) ?_
      refine rP hd @Tryd.results12 ?_
      try exact True.intro
    · obtain ⟨ps, e, q1, q2, q3⟩ := pairs_both n
      generalize ps.map prV = L at *
      refine gPAS (aI @h0 <|aI @ho <|aI @co53 <|aI @sr53 <|aI @q1.iffx <|aI @co54 <|aI @sr54 <|aI @q2.iffx <|aI @co42 <|aI @sr42 <|aI @q3.iffx <|aI @co26 <|aI @sr26 <|@P26.iffx) ?_
      refine rP hd @Tryd.results12 ?_
      try exact True.intro
  · have e3 : (n == 3) = false := by rw [beq_eq_false_iff_ne]; exact c
    refine gP (aI @h0 <|aI @h1 <|@e3) ?_
    refine cnd (fun h => ?_) (fun h => ?_)
    · simp at h
    obtain ⟨ps, e, q1, q2, q3⟩ := pairs_both n
    generalize ps.map prV = L at *
    refine gPAS (aI @h0 <|aI @ho <|aI @co53 <|aI @sr53 <|aI @q1.iffx <|aI @co54 <|aI @sr54 <|aI @q2.iffx <|aI @co42 <|aI @sr42 <|aI @q3.iffx <|aI @co26 <|aI @sr26 <|@P26.iffx) ?_
    refine rP hd @Tryd.results12 ?_
    try exact True.intro
end Go.Proofs.YtpocekfifokndaaDoor
