/- Part 10 of the proof: an evaluator of the program, proved sound against the model, and what the functions of the program compute. No condition but those each theorem states. -/
import Derived.Test.YtpocekfifokndaaDoorG2
import Derived.Test.YtpocekfifokndaaDoorG3
import Derived.Test.YtpocekfifokndaaDoorG9
set_option linter.unusedSimpArgs false
set_option linter.unusedVariables false
namespace Go.Proofs.YtpocekfifokndaaDoor
open Go Go.Ev Go.Pl
set_option maxRecDepth 100000
set_option maxHeartbeats 4000000
def chkP (a : List Int) (sh : Int) : Int := if chk a ≠ 0 then chk a else if sh < -64 ∨ 64 < sh then 8 else if a.length = 0 ∧ sh ≠ 0 then 5 else 0
theorem P59 (a : List Int) (sh : Int) : Ans X 59 [.agg [.sl (ints a), vi sh]] (.ret (vi (chkP a sh))) := by
  refine call_of_X (fn := Tryd.f59) 1 Tryd.func59 rfl (by decide +kernel) rfl ?_ ?_ ?_ ?_
  · rfl
  · exact fun _ => rfl
  · intro v hv; injection hv with hv; subst hv; rfl
  intro s hs hd ho
  have hm : s.m = ⟨.nil, []⟩ := by subst hs; rfl
  have h0 : s.t.get 0 = .agg [.sl (ints a), vi sh] := by subst hs; rfl
  clear hs
  refine gPA (aI @h0 <|aI @hm <|aI @co28 <|aI @sr28 <|((P28 a).iffx)) ?_
  refine cnd (fun h => ?_) (fun h => ?_)
  · have h : chk a ≠ 0 := by simpa using h
    refine gP @Nat.zero_add ?_
    refine rP hd @Tryd.results59 ?_
    try exact True.intro
    rw [chkP, if_pos h]
  have hc : chk a = 0 := by simpa using h
  rw [chkP, if_neg (fun e => e hc)]
  clear h
  by_cases c1 : sh < -64
  · rw [if_pos (.inl c1)]
    refine gPA (aI @h0 <|aI @hm <|@c1) ?_
    refine cnd (fun h => ?_) (fun h => ?_)
    · refine gP @Nat.zero_add ?_
      refine rP hd @Tryd.results59 ?_
      try exact True.intro
    · simp at h
  by_cases c2 : sh > 64
  · rw [if_pos (.inr c2)]
    refine gPA (aI @h0 <|aI @hm <|aI @c1 <|@c2) ?_
    refine cnd (fun h => ?_) (fun h => ?_)
    · refine gP @Nat.zero_add ?_
      refine rP hd @Tryd.results59 ?_
      try exact True.intro
    · simp at h
  rw [if_neg (by omega)]
  refine gPA (aI @h0 <|aI @hm <|aI @c1 <|aI @c2 <|@ints_length) ?_
  refine cnd (fun h => ?_) (fun h => ?_)
  · simp at h
  clear h
  by_cases c3 : a.length = 0
  · have e3 : (((a.length : Nat) : Int) == 0) = true := by rw [c3]; rfl
    by_cases c4 : sh = 0
    · have e4 : (sh != 0) = false := by rw [c4]; rfl
      rw [if_neg (fun e => e.2 c4)]
      refine gPA (aI @h0 <|aI @hm <|aI @ints_length <|aI @e3 <|@e4) ?_
      refine cnd (fun h => ?_) (fun h => ?_)
      · simp at h
      refine gP @Nat.zero_add ?_
      refine rP hd @Tryd.results59 ?_
      try exact True.intro
    · have e4 : (sh != 0) = true := by simpa using c4
      rw [if_pos ⟨c3, c4⟩]
      refine gPA (aI @h0 <|aI @hm <|aI @ints_length <|aI @e3 <|@e4) ?_
      refine cnd (fun h => ?_) (fun h => ?_)
      · refine gP @Nat.zero_add ?_
        refine rP hd @Tryd.results59 ?_
        try exact True.intro
      · simp at h
  · have e3 : (((a.length : Nat) : Int) == 0) = false := by rw [beq_eq_false_iff_ne]; omega
    rw [if_neg (fun e => c3 e.1)]
    refine gPA (aI @h0 <|aI @hm <|aI @ints_length <|@e3) ?_
    refine cnd (fun h => ?_) (fun h => ?_)
    · simp at h
    refine gP @Nat.zero_add ?_
    refine rP hd @Tryd.results59 ?_
    try exact True.intro
theorem P60 (a : List Int) (sh : Int) : Ans X 60 [.agg [.sl (ints a), vi sh]] (.ret (vi (chkP a sh))) := by
  refine call_of_X (fn := Tryd.f60) 1 Tryd.func60 rfl (by decide +kernel) rfl ?_ ?_ ?_ ?_
  · rfl
  · exact fun _ => rfl
  · intro v hv; injection hv with hv; subst hv; rfl
  intro s hs hd ho
  have hm : s.m = ⟨.nil, []⟩ := by subst hs; rfl
  have h0 : s.t.get 0 = .agg [.sl (ints a), vi sh] := by subst hs; rfl
  clear hs
  refine gPA (aI @h0 <|aI @hm <|aI @co74 <|aI @sr74 <|((P74 a).iffx)) ?_
  refine cnd (fun h => ?_) (fun h => ?_)
  · have h : chk a ≠ 0 := by simpa using h
    refine gP @Nat.zero_add ?_
    refine rP hd @Tryd.results60 ?_
    try exact True.intro
    rw [chkP, if_pos h]
  have hc : chk a = 0 := by simpa using h
  rw [chkP, if_neg (fun e => e hc)]
  clear h
  by_cases c1 : sh < -64
  · rw [if_pos (.inl c1)]
    refine gPA (aI @h0 <|aI @hm <|@c1) ?_
    refine cnd (fun h => ?_) (fun h => ?_)
    · refine gP @Nat.zero_add ?_
      refine rP hd @Tryd.results60 ?_
      try exact True.intro
    · simp at h
  by_cases c2 : sh > 64
  · rw [if_pos (.inr c2)]
    refine gPA (aI @h0 <|aI @hm <|aI @c1 <|@c2) ?_
    refine cnd (fun h => ?_) (fun h => ?_)
    · refine gP @Nat.zero_add ?_
      refine rP hd @Tryd.results60 ?_
      try exact True.intro
    · simp at h
  rw [if_neg (by omega)]
  refine gPA (aI @h0 <|aI @hm <|aI @c1 <|aI @c2 <|@ints_length) ?_
  refine cnd (fun h => ?_) (fun h => ?_)
  · simp at h
  clear h
  by_cases c3 : a.length = 0
  · have e3 : (((a.length : Nat) : Int) == 0) = true := by rw [c3]; rfl
    by_cases c4 : sh = 0
    · have e4 : (sh != 0) = false := by rw [c4]; rfl
      rw [if_neg (fun e => e.2 c4)]
      refine gPA (aI @h0 <|aI @hm <|aI @ints_length <|aI @e3 <|@e4) ?_
      refine cnd (fun h => ?_) (fun h => ?_)
      · simp at h
      refine gP @Nat.zero_add ?_
      refine rP hd @Tryd.results60 ?_
      try exact True.intro
    · have e4 : (sh != 0) = true := by simpa using c4
      rw [if_pos ⟨c3, c4⟩]
      refine gPA (aI @h0 <|aI @hm <|aI @ints_length <|aI @e3 <|@e4) ?_
      refine cnd (fun h => ?_) (fun h => ?_)
      · refine gP @Nat.zero_add ?_
        refine rP hd @Tryd.results60 ?_
        try exact True.intro
      · simp at h
  · have e3 : (((a.length : Nat) : Int) == 0) = false := by rw [beq_eq_false_iff_ne]; omega
    rw [if_neg (fun e => c3 e.1)]
    refine gPA (aI @h0 <|aI @hm <|aI @ints_length <|@e3) ?_
    refine cnd (fun h => ?_) (fun h => ?_)
    · simp at h
    refine gP @Nat.zero_add ?_
    refine rP hd @Tryd.results60 ?_
    try exact True.intro
end Go.Proofs.YtpocekfifokndaaDoor
namespace Go.Proofs.YtpocekfifokndaaDoor
open Go Go.Ev Go.Pl
set_option maxRecDepth 100000
set_option maxHeartbeats 4000000
theorem ap2 {a b c : Nat} (h : a ≤ b) (h2 : b < c) : a < c := Nat.lt_of_le_of_lt h h2
def plcV (p : List Int × Int) : V := .agg [.sl (ints p.1), vi p.2]
def plcsV (l : List (List Int × Int)) : List V := l.map plcV
theorem plcsV_length (l : List (List Int × Int)) : (plcsV l).length = l.length := by simp [plcsV]
theorem plcsV_get {l : List (List Int × Int)} {i : Nat} {p : List Int × Int} (h : l[i]? = some p) : (plcsV l)[i]? = some (.agg [.sl (ints p.1), vi p.2]) := by
  rw [plcsV, List.getElem?_map, h]; rfl
def valN (p : List Int × Int) : Nat := numI p.1 * 60 ^ (p.2 + 64).toNat
def sumN (l : List (List Int × Int)) : Nat := (l.map valN).sum
def ferr : List (List Int × Int) → Int
  | [] => 0
  | p :: l => if chkP p.1 p.2 ≠ 0 then chkP p.1 p.2 else ferr l
def sumS (l : List (List Int × Int)) : List Nat × Int × Int :=
  if 64 < l.length then ([], 0, 3) else if ferr l ≠ 0 then ([], 0, ferr l) else
  if goodP (sumN l) (-64) then (digB (sumN l), if sumN l = 0 then 0 else -64 + (vz (sumN l) : Int), 0) else ([], 0, 3)
theorem chkP_ok {a : List Int} {sh : Int} (h : chkP a sh = 0) : chk a = 0 ∧ -64 ≤ sh ∧ sh ≤ 64 := by
  unfold chkP at h
  by_cases c : chk a = 0
  · rw [if_neg (fun e => e c)] at h
    by_cases c2 : sh < -64 ∨ 64 < sh
    · rw [if_pos c2] at h; exact absurd h (by decide)
    · exact ⟨c, by omega⟩
  · rw [if_pos c] at h; exact absurd h c
theorem ferr_all : ∀ {l : List (List Int × Int)}, ferr l = 0 → ∀ p ∈ l, chkP p.1 p.2 = 0
  | [], _, p, hp => by simp at hp
  | q :: l, h, p, hp => by
    rw [ferr] at h
    by_cases c : chkP q.1 q.2 = 0
    · rw [if_neg (fun e => e c)] at h
      rcases List.mem_cons.1 hp with rfl | hp
      · exact c
      · exact ferr_all h p hp
    · rw [if_pos c] at h; exact absurd h c
theorem valN_lt {p : List Int × Int} (h : chkP p.1 p.2 = 0) : valN p < 60 ^ 144 := by
  obtain ⟨hc, h1, h2⟩ := chkP_ok h
  have hN := numI_lt hc
  calc valN p < 60 ^ 16 * 60 ^ (p.2 + 64).toNat := Nat.mul_lt_mul_of_pos_right hN (pow_pos _)
    _ ≤ 60 ^ 16 * 60 ^ 128 := Nat.mul_le_mul_left _ (Nat.pow_le_pow_right (by decide) (by omega))
    _ = 60 ^ 144 := by rw [← Nat.pow_add]
theorem sumN_le : ∀ {l : List (List Int × Int)}, (∀ p ∈ l, chkP p.1 p.2 = 0) → sumN l ≤ l.length * 60 ^ 144
  | [], _ => by simp [sumN]
  | p :: l, h => by
    have h1 := valN_lt (h p List.mem_cons_self)
    have h2 := sumN_le (l := l) (fun q hq => h q (List.mem_cons_of_mem _ hq))
    have e : sumN (p :: l) = valN p + sumN l := by simp [sumN]
    rw [e, List.length_cons, Nat.succ_mul]
    omega
theorem sumN_take {l : List (List Int × Int)} {i : Nat} {p : List Int × Int} (h : l[i]? = some p) : sumN (l.take (i + 1)) = sumN (l.take i) + valN p := by
  unfold sumN
  rw [List.take_add_one, h]
  simp
theorem P119 (l : List (List Int × Int)) (hl : l.length ≤ 64) (hok : ∀ p ∈ l, chkP p.1 p.2 = 0) (r : Res) (hr : placeRes (sumN l * 60 ^ 8) = r) (o1 oM : Go.Ev.Rows)
    (hA : (⟨oM, []⟩ : Mem).row ⟨0, 1, 0, 1⟩ = some ⟨1, 64, false, false, [.sl (plcsV l)]⟩)
    (hR : (∃ es sh, r = .ret (.agg [.sl (nats es), vi sh])) ∨ (r = .panic (.ifc 23 (vi 3)))) :
    AnsAt X 119 [.ptr ⟨0, 1, 0, 1⟩ 0 0] [o1, oM] r := by
  refine ⟨rfl, rfl, fun v hv => ?_, ?_⟩
  · rcases hR with ⟨es, sh, rfl⟩ | rfl
    · injection hv with hv; subst hv; rfl
    · cases hv
  refine runsAt_of (X := X) (fn := Tryd.f119) Tryd.func119 rfl ⟨by decide +kernel, Nat.le_of_ble_eq_true rfl⟩ ?_
  have hd : (enter [V.ptr ⟨0, 1, 0, 1⟩ 0 0] [o1, oM]).dfs = [] := rfl
  have h0 : (enter [V.ptr ⟨0, 1, 0, 1⟩ 0 0] [o1, oM]).t.get 0 = .ptr ⟨0, 1, 0, 1⟩ 0 0 := rfl
  have hm : (enter [V.ptr ⟨0, 1, 0, 1⟩ 0 0] [o1, oM]).m = ⟨.nil, [o1, oM]⟩ := rfl
  generalize enter [V.ptr ⟨0, 1, 0, 1⟩ 0 0] [o1, oM] = s at *
  have hA' : (⟨.nil, [o1, oM]⟩ : Mem).row ⟨0, 1, 0, 1⟩ = some ⟨1, 64, false, false, [.sl (plcsV l)]⟩ := by rw [row_outer _ _ _ _ (by simp), row_outer _ _ _ _ (by simp), hA]
  refine gPAW (aI @h0 <|aI @hm <|aI @hA' <|@plcsV_length) ?_
  refine W_loopg (fun (k : Nat) s => s.dfs = [] ∧ s.m.out = [o1, oM] ∧ s.t.get 1 = .ptr ⟨2, 1, 0, 1⟩ 0 0 ∧ s.t.get 2 = .ptr ⟨2, 2, 0, 1⟩ 0 0 ∧ s.t.get 5 = .sl (plcsV l) ∧ s.t.get 6 = vn l.length ∧ s.t.get 7 = vn k ∧
    s.m.row ⟨2, 1, 0, 1⟩ = some ⟨1, 54, false, false, [.agg [.rs ⟨2, 1, 1, 1⟩ 0 0 0, vi 0]]⟩ ∧ s.m.row ⟨2, 2, 0, 1⟩ = some ⟨1, 100, false, false, [wv (sumN (l.take k) * 60 ^ 8)]⟩ ∧ k ≤ l.length) (fun k => l.length - k) 0 ?_ ?_
  · refine ⟨hd, ?_, ?_, ?_, ?_, ?_, ?_, ?_, ?_, Nat.zero_le _⟩
    all_goals (try refine fW (aI @hm <|@hA') ?_);all_goals try exact True.intro
    all_goals first | rfl | (refine wrow fun i _ => ?_; simp [sumN, dig])
  clear hd h0 hm hA' hA
  rintro k s ⟨hd, ho, h1, h2, h5, h6, h7, r1, r2, hk⟩
  refine gP (aI @h6 <|@h7) ?_
  refine cnd (fun h => ?_) (fun h => ?_)
  · have hk' : k < l.length := by have := of_decide_eq_true h; omega
    clear h
    obtain ⟨p, hp⟩ : ∃ p, l[k]? = some p := ⟨l[k], by simp⟩
    have hpk := hok p (List.mem_of_getElem? hp)
    obtain ⟨hc, hs1, hs2⟩ := chkP_ok hpk
    obtain ⟨b1, b2, b3, b4, _⟩ := chk_ok hc
    have hg := plcsV_get hp
    rw [b1] at hg
    obtain ⟨t, ht⟩ : ∃ t : Nat, (t : Int) = p.2 + 64 := ⟨(p.2 + 64).toNat, by omega⟩
    have q86 := P86 (natsOf p.1) p.2 (t + 8) (by omega) b2 (by omega)
    have hv : numL (natsOf p.1).reverse * 60 ^ (t + 8) = valN p * 60 ^ 8 := by
      rw [valN, ← ht, Int.toNat_natCast, Nat.pow_add, Nat.mul_assoc]; rfl
    rw [hv] at q86
    have q120 := P120 (sumN (l.take k) * 60 ^ 8) (valN p * 60 ^ 8)
    rw [← Nat.add_mul, ← sumN_take hp] at q120
    have hk1 : (k : Int) < (l.length : Int) := by omega
    have hk0 : (0 : Int) ≤ (k : Int) := by omega
    have e1 : V.int .i64 (wr .i64 ((k : Int) + 1)) = vn (k + 1) := by rw [wr_i64 (by omega) (by omega)]; rfl
    clear b1 b2 b3 b4 hc hpk ht hv
    refine gPASW (aI @h1 <|aI @h2 <|aI @h5 <|aI @h6 <|aI @h7 <|aI @r1 <|aI @r2 <|aI @ho <|aI @hg <|aI @hk1 <|aI @hk0 <|aI @plcsV_length <|aI @co86 <|aI @sr86 <|aI @q86.iffx <|aI @co120 <|aI @sr120 <|aI @q120.iffx <|aI @rowsOf_aggl <|aI @ptrs_aggl <|@e1) ?_
    refine ⟨k + 1, ⟨hd, ?_, ?_, ?_, ?_, ?_, ?_, ?_, ?_, hk'⟩, by omega⟩
    all_goals (try refine fW (aI @h1 <|aI @h2 <|aI @h5 <|aI @h6 <|aI @r1 <|aI @r2 <|@ho) ?_);all_goals try exact True.intro
    simp [Mem.new, Mem.set, ho]
  · have hkl : k = l.length := by have := of_decide_eq_false h; omega
    subst hkl
    rw [List.take_length] at r2
    have hb := sumN_le hok
    have hlt : sumN l * 60 ^ 8 < 60 ^ 168 := by
      have h1 : sumN l ≤ 64 * 60 ^ 144 := Nat.le_trans hb (Nat.mul_le_mul_right _ hl)
      exact Nat.lt_of_le_of_lt (Nat.mul_le_mul_right _ h1) (by decide)
    have q := P81 _ hlt
    rw [hr] at q
    clear h hlt hb hok hr
    rcases hR with ⟨es, sh, rfl⟩ | rfl
    · refine gPASW (aI @h1 <|aI @h2 <|aI @r1 <|aI @r2 <|aI @ho <|aI @co81 <|aI @sr81 <|@q.iffx) ?_
      refine fin_ret (X := X) (fn := Tryd.f119) (vs := [.agg [.sl (nats es), vi sh]]) hd ?_ ?_ ?_
      · simp (maxSteps := 2000000) (disch := omega) only [SA, ofValue, ofCell, bin, intBin, un, idx, Go.Ev.builtin, calleeOf, V.isNilS, V.depthOk, depth1, V.ok1, V.isAgg, V.cells, isConst, Nat.reduceBEq, Nat.reduceEqDiff, ↓reduceIte, Nat.reduceLeDiff, Nat.reduceAdd, Nat.reduceMul, Nat.reduceSub, Nat.reduceLT, Int.reduceAdd, Int.reduceSub, Int.reduceMul, Int.reduceLT, Int.reduceLE, Int.reduceToNat, Int.reduceNeg, reduceIte, reduceCtorEq, SPx, SAx, Tryd.results119, resVars, resVar, h1, r1, ho]
      · simp (maxSteps := 2000000) (disch := omega) only [SA, ofValue, ofCell, bin, intBin, un, idx, Go.Ev.builtin, calleeOf, V.isNilS, V.depthOk, depth1, V.ok1, V.isAgg, V.cells, isConst, Nat.reduceBEq, Nat.reduceEqDiff, ↓reduceIte, Nat.reduceLeDiff, Nat.reduceAdd, Nat.reduceMul, Nat.reduceSub, Nat.reduceLT, Int.reduceAdd, Int.reduceSub, Int.reduceMul, Int.reduceLT, Int.reduceLE, Int.reduceToNat, Int.reduceNeg, reduceIte, reduceCtorEq, SPx, SAx, resOf, X_own]
      · refine (frzR_own (fun r ty off len hm => ?_)).trans ?_
        · simp [resOf, leaves, leaves2] at hm
        · simp [Mem.new, Mem.set, ho]
    · refine gPASW (aI @h1 <|aI @h2 <|aI @r1 <|aI @r2 <|aI @ho <|aI @co81 <|aI @sr81 <|@q.panicsx) ?_
      refine fin_panic hd rfl ?_
      simp [Mem.new, Mem.set, ho]
theorem P55 (l : List (List Int × Int)) : Ans X 55 [.sl (plcsV l)] (.ret (.tup [.agg [.sl (nats (sumS l).1), vi (sumS l).2.1], vi (sumS l).2.2])) := by
  refine call_of_X (fn := Tryd.f55) 1 Tryd.func55 rfl (by decide +kernel) rfl ?_ ?_ ?_ ?_
  · rfl
  · intro h; exact absurd h (by rw [sr55]; decide)
  · intro v hv; injection hv with hv; subst hv; rfl
  intro s hs hd ho
  have hm : s.m = ⟨.nil, []⟩ := by subst hs; rfl
  have h0 : s.t.get 0 = .sl (plcsV l) := by subst hs; rfl
  clear hs
  by_cases c1 : (l.length : Int) > 64
  · refine gPA (aI @h0 <|aI @hm <|aI @plcsV_length <|@c1) ?_
    refine cnd (fun h => ?_) (fun h => ?_)
    · refine gPA @hm ?_
      refine rPAS hd (aI @Tryd.results55 <|@hm) ?_
      try exact True.intro
      rw [sumS, if_pos (by omega)]; rfl
    · simp at h
  have hl : l.length ≤ 64 := by omega
  rw [sumS, if_neg (by omega)]
  refine gPA (aI @h0 <|aI @hm <|aI @plcsV_length <|@c1) ?_
  refine cnd (fun h => ?_) (fun h => ?_)
  · simp at h
  clear h
  refine gPA (aI @h0 <|aI @hm <|@plcsV_length) ?_
  refine W_loopg (fun (k : Nat) s => s.dfs = [] ∧ s.m.out = [] ∧ s.t.get 1 = .ptr ⟨0, 1, 0, 1⟩ 0 0 ∧ s.t.get 2 = .ptr ⟨0, 2, 0, 1⟩ 0 0 ∧ s.t.get 11 = .sl (plcsV l) ∧ s.t.get 12 = vn l.length ∧ s.t.get 13 = vn k ∧
    s.m.row ⟨0, 1, 0, 1⟩ = some ⟨1, 64, false, false, [.sl (plcsV l)]⟩ ∧ s.m.row ⟨0, 2, 0, 1⟩ = some ⟨1, 54, false, false, [.agg [.rs ⟨0, 2, 1, 1⟩ 0 0 0, vi 0]]⟩ ∧ k ≤ l.length ∧ ferr l = ferr (l.drop k)) (fun k => l.length - k) 0 ?_ ?_
  · refine ⟨hd, ?_, ?_, ?_, ?_, ?_, ?_, ?_, ?_, Nat.zero_le _, rfl⟩
    all_goals (try refine f0 (aI @h0 <|@hm) ?_);all_goals try exact True.intro
    all_goals rfl
  clear hd h0 hm ho
  rintro k s ⟨hd, ho, h1, h2, h11, h12, h13, r1, r2, hk, hf⟩
  refine gP (aI @h12 <|@h13) ?_
  refine cnd (fun h => ?_) (fun h => ?_)
  · have hk' : k < l.length := by have := of_decide_eq_true h; omega
    clear h
    obtain ⟨p, hp⟩ : ∃ p, l[k]? = some p := ⟨l[k], by simp⟩
    have hg := plcsV_get hp
    have q := P59 p.1 p.2
    have hk1 : (k : Int) < (l.length : Int) := by omega
    have hk0 : (0 : Int) ≤ (k : Int) := by omega
    have e1 : V.int .i64 (wr .i64 ((k : Int) + 1)) = vn (k + 1) := by rw [wr_i64 (by omega) (by omega)]; rfl
    have hdrop : l.drop k = p :: l.drop (k + 1) := by
      rw [List.drop_eq_getElem_cons hk']
      congr 1
      rw [List.getElem?_eq_getElem hk'] at hp
      exact Option.some.inj hp
    rw [hdrop, ferr] at hf
    refine gPAS (aI @h1 <|aI @h2 <|aI @h11 <|aI @h12 <|aI @h13 <|aI @r1 <|aI @r2 <|aI @ho <|aI @hg <|aI @hk1 <|aI @hk0 <|aI @plcsV_length <|aI @co59 <|aI @sr59 <|@q.iffx) ?_
    refine cnd (fun h => ?_) (fun h => ?_)
    · have h : chkP p.1 p.2 ≠ 0 := by simpa using h
      rw [if_pos h] at hf
      refine gPA (aI @h1 <|aI @h2 <|aI @r2 <|@ho) ?_
      refine rPAS hd (aI @Tryd.results55 <|aI @h2 <|aI @r2 <|@ho) ?_
      try exact True.intro
      rw [hf]; rfl
    · have h : chkP p.1 p.2 = 0 := by simpa using h
      rw [if_neg (fun e => e h)] at hf
      refine gP (aI @h13 <|@e1) ?_
      refine ⟨k + 1, ⟨hd, ?_, ?_, ?_, ?_, ?_, ?_, ?_, ?_, hk', hf⟩, by omega⟩
      all_goals (try refine f0 (aI @h1 <|aI @h2 <|aI @h11 <|aI @h12 <|aI @r1 <|aI @r2 <|@ho) ?_);all_goals try exact True.intro
      simp [Mem.new, Mem.set, ho]
  · have hkl : k = l.length := by have := of_decide_eq_false h; omega
    subst hkl
    rw [List.drop_length, ferr] at hf
    rw [if_neg (fun e => e hf)]
    have hok := ferr_all hf
    have key : ∀ (m : Mem) (dst : Nat) (K KP : V → Mem → Prop), m.out = [] → m.row ⟨0, 1, 0, 1⟩ = some ⟨1, 64, false, false, [.sl (plcsV l)]⟩ →
        (CallQ X 118 [vi 0, .fn 119 [] [.ptr ⟨0, 1, 0, 1⟩ 0 0]] m dst K KP ↔ K (.tup [.agg [.sl (nats (if goodP (sumN l) (-64) then (digB (sumN l), if sumN l = 0 then 0 else -64 + (vz (sumN l) : Int), 0) else ([], 0, 3) : List Nat × Int × Int).1), vi (if goodP (sumN l) (-64) then (digB (sumN l), if sumN l = 0 then 0 else -64 + (vz (sumN l) : Int), 0) else ([], 0, 3) : List Nat × Int × Int).2.1], vi (if goodP (sumN l) (-64) then (digB (sumN l), if sumN l = 0 then 0 else -64 + (vz (sumN l) : Int), 0) else ([], 0, 3) : List Nat × Int × Int).2.2]) m) := by
      rintro ⟨own, out⟩ dst K KP ho r1
      dsimp only at ho
      subst ho
      have hpr := placeRes_at (sumN l) 8 (-64) rfl
      by_cases c : goodP (sumN l) (-64)
      · rw [if_pos c] at hpr ⊢
        exact AnsAt.iff (m := ⟨own, []⟩) (M118 119 _ own _ rfl co119 sr119 (fun o1 => P119 l hl hok _ hpr o1 own r1 (.inl ⟨_, _, rfl⟩)) _ (.inl ⟨_, _, rfl, rfl⟩))
      · rw [if_neg c] at hpr ⊢
        exact AnsAt.iff (m := ⟨own, []⟩) (M118 119 _ own _ rfl co119 sr119 (fun o1 => P119 l hl hok _ hpr o1 own r1 (.inr rfl)) _ (.inr ⟨3, rfl, rfl⟩))
    generalize (if goodP (sumN l) (-64) then (digB (sumN l), if sumN l = 0 then 0 else -64 + (vz (sumN l) : Int), 0) else ([], 0, 3) : List Nat × Int × Int) = R at *
    clear h hok hf
    refine gP @Nat.zero_add ?_
    with_reducible refine W_region_k ?_
    intro K hK
    simp (maxSteps := 2000000) (disch := omega) only [SA, ofValue, ofCell, bin, intBin, un, idx, Go.Ev.builtin, calleeOf, V.isNilS, V.depthOk, depth1, V.ok1, V.isAgg, V.cells, isConst, Nat.reduceBEq, Nat.reduceEqDiff, ↓reduceIte, Nat.reduceLeDiff, Nat.reduceAdd, Nat.reduceMul, Nat.reduceSub, Nat.reduceLT, Int.reduceAdd, Int.reduceSub, Int.reduceMul, Int.reduceLT, Int.reduceLE, Int.reduceToNat, Int.reduceNeg, reduceIte, reduceCtorEq, SPx, SAx, h1, h2, r1, r2, ho, co118, sr118]
    rw [key _ _ _ _ ho r1]
    simp (maxSteps := 2000000) (disch := omega) only [SA, ofValue, ofCell, bin, intBin, un, idx, Go.Ev.builtin, calleeOf, V.isNilS, V.depthOk, depth1, V.ok1, V.isAgg, V.cells, isConst, Nat.reduceBEq, Nat.reduceEqDiff, ↓reduceIte, Nat.reduceLeDiff, Nat.reduceAdd, Nat.reduceMul, Nat.reduceSub, Nat.reduceLT, Int.reduceAdd, Int.reduceSub, Int.reduceMul, Int.reduceLT, Int.reduceLE, Int.reduceToNat, Int.reduceNeg, reduceIte, reduceCtorEq, SPx, SAx, h2, r2, ho]
    refine hK _ _ ?_
    clear hK K
    refine gP @Nat.zero_add ?_
    refine rPA hd (aI @Tryd.results55 <|aI @h2 <|aI @r2 <|@ho) ?_
    try exact True.intro
end Go.Proofs.YtpocekfifokndaaDoor
