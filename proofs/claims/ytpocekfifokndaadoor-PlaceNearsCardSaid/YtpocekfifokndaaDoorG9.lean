/- Part 9 of the proof: an evaluator of the program, proved sound against the model, and what the functions of the program compute. No condition but those each theorem states. -/
import Derived.Test.YtpocekfifokndaaDoorG2
import Derived.Test.YtpocekfifokndaaDoorG6
import Derived.Test.YtpocekfifokndaaDoorG3
set_option linter.unusedSimpArgs false
set_option linter.unusedVariables false
namespace Go.Proofs.YtpocekfifokndaaDoor
open Go Go.Ev Go.Pl
set_option maxRecDepth 100000
set_option maxHeartbeats 4000000
def placeV (N : Nat) (sh : Int) : V := .agg [.sl (nats (digB N)), vi (if N = 0 then 0 else sh + vz N)]
abbrev goodP (N : Nat) (sh : Int) : Prop := N = 0 ∨ ((digB N).length ≤ 16 ∧ -64 ≤ sh + vz N ∧ sh + vz N ≤ 64)
theorem placeRes_at (M t : Nat) (sh : Int) (ht : 72 + sh = t) : placeRes (M * 60 ^ t) = if goodP M sh then .ret (placeV M sh) else .panic (.ifc 23 (vi 3)) := by
  unfold goodP placeV
  rcases Nat.eq_zero_or_pos M with rfl | h
  · rw [placeRes, Nat.zero_mul, if_pos rfl, if_pos (Or.inl rfl), if_pos rfl, digB_zero]; rfl
  · have h1 : M * 60 ^ t ≠ 0 := Nat.mul_ne_zero (by omega) (Nat.pos_iff_ne_zero.1 (pow_pos t))
    have h0 : ¬ M = 0 := by omega
    rw [placeRes, if_neg h1, digB_shift, vz_shift h, if_neg h0]
    have e : ((vz M + t : Nat) : Int) - 72 = sh + vz M := by omega
    rw [e]
    by_cases c : (digB M).length ≤ 16 ∧ -64 ≤ sh + vz M ∧ sh + vz M ≤ 64
    · have g1 : ¬ (16 < (digB M).length ∨ 64 < sh + (vz M : Int) ∨ sh + (vz M : Int) < -64) := by omega
      have g2 : M = 0 ∨ (digB M).length ≤ 16 ∧ -64 ≤ sh + (vz M : Int) ∧ sh + (vz M : Int) ≤ 64 := Or.inr c
      rw [if_neg g1, if_pos g2]
    · have g1 : 16 < (digB M).length ∨ 64 < sh + (vz M : Int) ∨ sh + (vz M : Int) < -64 := by omega
      have g2 : ¬ (M = 0 ∨ (digB M).length ≤ 16 ∧ -64 ≤ sh + (vz M : Int) ∧ sh + (vz M : Int) ≤ 64) := by omega
      rw [if_pos g1, if_neg g2]
theorem P109 (N : Nat) (sh : Int) (hl : (canL N).length < 1000) (h1 : -1000000 < sh) (h2 : sh < 1000000) : Ans X 109 [.sl (nats (canL N)), vi sh] (.ret (.tup [placeV N sh, .bool (decide (goodP N sh))])) := by
  refine call_of_X (fn := Tryd.f109) 2 Tryd.func109 rfl (by decide +kernel) rfl ?_ ?_ ?_ ?_
  · rfl
  · intro h; exact absurd h (by rw [sr109]; decide)
  · intro v hv; injection hv with hv; subst hv; rfl
  intro s hs hd ho
  have hm : s.m = ⟨.nil, []⟩ := by subst hs; rfl
  have h0 : s.t.get 0 = .sl (nats (canL N)) := by subst hs; rfl
  have h1' : s.t.get 1 = vi sh := by subst hs; rfl
  clear hs
  have q := P83 N hl
  have hz : N = 0 ↔ (digB N).length = 0 := by rw [List.length_eq_zero_iff]; exact digB_eq_nil.symm
  have hvz : vz N < 1000 := by have := canL_len_core N; omega
  unfold goodP placeV
  generalize digB N = D at *
  generalize vz N = v at *
  generalize canL N = L at *
  clear hl
  refine gPAS (aI @h0 <|aI @h1' <|aI @hm <|aI @co83 <|aI @sr83 <|aI @q.iffx <|@nats_length) ?_
  refine cnd (fun h => ?_) (fun h => ?_)
  · have h : N = 0 := hz.2 (by have h' := eq_of_beq h; omega)
    have hD : D = [] := List.length_eq_zero_iff.1 (hz.1 h)
    rw [if_pos h, decide_eq_true (.inl h), hD]
    refine gPAS @hm ?_
    refine rPAS hd (aI @Tryd.results109 <|@hm) ?_
    try exact True.intro
    rfl
  have h : ¬ N = 0 := fun e => by
    have := hz.1 e
    rw [this] at h; simp at h
  rw [if_neg h]
  have e1 : V.int .i64 (wr .i64 (sh + (v : Int))) = vi (sh + v) := by rw [wr_i64 (by omega) (by omega)]
  by_cases c1 : D.length ≤ 16
  · have c1' : (D.length : Int) ≤ 16 := by omega
    by_cases c2 : -64 ≤ sh + (v : Int)
    · have c2' : sh + (v : Int) ≥ -64 := c2
      by_cases c3 : sh + (v : Int) ≤ 64
      · have hT : (N = 0 ∨ D.length ≤ 16 ∧ -64 ≤ sh + (v : Int) ∧ sh + (v : Int) ≤ 64) := .inr ⟨c1, c2, c3⟩
        rw [decide_eq_true hT]
        clear hT c1 c2 hz
        refine gPAS (aI @h0 <|aI @h1' <|aI @hm <|aI @nats_length <|aI @rowsOf_aggl <|aI @ptrs_aggl <|aI @e1 <|aI @c1' <|aI @c2' <|@c3) ?_
        refine rPAS hd (aI @Tryd.results109 <|@hm) ?_
        try exact True.intro
      · have hT : ¬ (N = 0 ∨ D.length ≤ 16 ∧ -64 ≤ sh + (v : Int) ∧ sh + (v : Int) ≤ 64) := by omega
        rw [decide_eq_false hT]
        clear hT c1 c2 hz
        refine gPAS (aI @h0 <|aI @h1' <|aI @hm <|aI @nats_length <|aI @rowsOf_aggl <|aI @ptrs_aggl <|aI @e1 <|aI @c1' <|aI @c2' <|@c3) ?_
        refine rPAS hd (aI @Tryd.results109 <|@hm) ?_
        try exact True.intro
    · have hT : ¬ (N = 0 ∨ D.length ≤ 16 ∧ -64 ≤ sh + (v : Int) ∧ sh + (v : Int) ≤ 64) := by omega
      have c2' : ¬ sh + (v : Int) ≥ -64 := c2
      rw [decide_eq_false hT]
      clear hT c1 c2 hz
      refine gPAS (aI @h0 <|aI @h1' <|aI @hm <|aI @nats_length <|aI @rowsOf_aggl <|aI @ptrs_aggl <|aI @e1 <|aI @c1' <|@c2') ?_
      refine rPAS hd (aI @Tryd.results109 <|@hm) ?_
      try exact True.intro
  · have hT : ¬ (N = 0 ∨ D.length ≤ 16 ∧ -64 ≤ sh + (v : Int) ∧ sh + (v : Int) ≤ 64) := by omega
    have c1' : ¬ (D.length : Int) ≤ 16 := by omega
    rw [decide_eq_false hT]
    clear hT c1 hz
    refine gPAS (aI @h0 <|aI @h1' <|aI @hm <|aI @nats_length <|aI @rowsOf_aggl <|aI @ptrs_aggl <|aI @e1 <|@c1') ?_
    refine rPAS hd (aI @Tryd.results109 <|@hm) ?_
    try exact True.intro
theorem P48 (a : List Nat) (sh : Int) (hl : a.length < 1000000000000) : Ans X 48 [.agg [.sl (nats a), vi sh], .agg [.sl (nats a), vi sh]] (.ret (.bool true)) := by
  refine call_of_X (fn := Tryd.f48) 2 Tryd.func48 rfl (by decide +kernel) rfl ?_ ?_ ?_ ?_
  · rfl
  · exact fun _ => rfl
  · intro v hv; injection hv with hv; subst hv; rfl
  intro s hs hd ho
  have hm : s.m = ⟨.nil, []⟩ := by subst hs; rfl
  have h0 : s.t.get 0 = .agg [.sl (nats a), vi sh] := by subst hs; rfl
  have h1 : s.t.get 1 = .agg [.sl (nats a), vi sh] := by subst hs; rfl
  clear hs
  have q := Q25 a hl
  refine gPAS (aI @h0 <|aI @h1 <|aI @hm <|aI @co25 <|aI @sr25 <|@q.iffx) ?_
  refine rP hd @Tryd.results48 ?_
  try exact True.intro
end Go.Proofs.YtpocekfifokndaaDoor
