/- Part 6 of the proof: an evaluator of the program, proved sound against the model, and what the functions of the program compute. No condition but those each theorem states. -/
import Derived.Test.YtpocekfifokndaaDoorG2
import Derived.Test.YtpocekfifokndaaDoorG3
import Derived.Test.YtpocekfifokndaaDoorG1
set_option linter.unusedSimpArgs false
set_option linter.unusedVariables false
namespace Go.Proofs.YtpocekfifokndaaDoor
open Go Go.Ev Go.Pl
set_option maxRecDepth 100000
set_option maxHeartbeats 4000000
def offs : Nat → List (List UInt8) → List (List UInt8 × Nat)
  | _, [] => []
  | at', p :: ps => (p, at') :: offs (at' + (p.length + 1)) ps
theorem offs_length : ∀ (l : List (List UInt8)) (k : Nat), (offs k l).length = l.length
  | [], _ => rfl
  | p :: ps, k => by simp [offs, offs_length ps]
theorem offs_append : ∀ (a b : List (List UInt8)) (k : Nat), offs k (a ++ b) = offs k a ++ offs (k + (a.map fun p => p.length + 1).sum) b
  | [], b, k => by simp [offs]
  | p :: ps, b, k => by
    simp only [List.cons_append, offs, offs_append ps b, List.map_cons, List.sum_cons]
    rw [Nat.add_assoc]
theorem splitB_ne (c : UInt8) (s : List UInt8) : splitB c s ≠ [] := fun e => by have := splitB_pos c s; rw [e] at this; simp at this
theorem splitB_snoc (c b : UInt8) : ∀ s : List UInt8, ∃ l p, splitB c s = l ++ [p] ∧ splitB c (s ++ [b]) = if b = c then l ++ [p, []] else l ++ [p ++ [b]]
  | [] => ⟨[], [], rfl, by simp only [List.nil_append, splitB]⟩
  | x :: s => by
    obtain ⟨l, p, h1, h2⟩ := splitB_snoc c b s
    simp only [List.cons_append, splitB, h1, h2]
    by_cases hx : x = c
    · refine ⟨[] :: l, p, by simp [hx], ?_⟩
      by_cases hb : b = c <;> simp [hx, hb]
    · cases l with
      | nil =>
        refine ⟨[], x :: p, by simp [hx], ?_⟩
        by_cases hb : b = c <;> simp [hx, hb]
      | cons q l =>
        refine ⟨(x :: q) :: l, p, by simp [hx], ?_⟩
        by_cases hb : b = c <;> simp [hx, hb]
theorem splitB_sum (c : UInt8) : ∀ s : List UInt8, ((splitB c s).map fun p => p.length + 1).sum = s.length + 1
  | [] => rfl
  | x :: s => by
    have ih := splitB_sum c s
    unfold splitB
    split
    · simp [ih]; omega
    · split
      · rename_i e; exact absurd e (splitB_ne c s)
      · rename_i l ls e
        rw [e] at ih
        simp at ih ⊢
        omega
theorem splitB_suffix (c : UInt8) : ∀ (t : List UInt8) (l : List (List UInt8)) (p : List UInt8), splitB c t = l ++ [p] → ∃ x, t = x ++ p ∧ x.length = (l.map fun q => q.length + 1).sum
  | [], l, p, h => by
    simp only [splitB] at h
    cases l with
    | nil => simp at h; subst h; exact ⟨[], rfl, rfl⟩
    | cons q l => simp at h
  | y :: t, l, p, h => by
    unfold splitB at h
    split at h
    · cases l with
      | nil =>
        simp at h
        exact absurd h.2 (splitB_ne c t)
      | cons q l =>
        simp only [List.cons_append, List.cons.injEq] at h
        obtain ⟨x, h1, h2⟩ := splitB_suffix c t l p h.2
        refine ⟨y :: x, by rw [h1]; rfl, ?_⟩
        rw [← h.1]; simp [h2]; omega
    · split at h
      · rename_i e; exact absurd e (splitB_ne c t)
      · rename_i q ls e
        cases l with
        | nil =>
          simp at h
          obtain ⟨rfl, rfl⟩ := h
          obtain ⟨x, h1, h2⟩ := splitB_suffix c t [] q (by rw [e]; rfl)
          have hx : x = [] := by simpa using h2
          subst hx
          exact ⟨[], by rw [h1]; rfl, rfl⟩
        | cons r l =>
          simp only [List.cons_append, List.cons.injEq] at h
          obtain ⟨rfl, rfl⟩ := h
          obtain ⟨x, h1, h2⟩ := splitB_suffix c t (q :: l) p (by rw [e]; rfl)
          refine ⟨y :: x, by rw [h1]; rfl, ?_⟩
          simp at h2 ⊢; omega
def pv (l : List (List UInt8 × Nat)) : List V := l.map fun p => .agg [.str p.1, vn p.2]
theorem pv_length (l : List (List UInt8 × Nat)) : (pv l).length = l.length := by simp [pv]
theorem cut_pv (l : List (List UInt8 × Nat)) : cut (pv l) 0 l.length = pv l := by
  rw [← pv_length l]; simp [cut]
theorem P93 (s : List UInt8) (hs0 : s.length < 4294967281) : Ans X 93 [.str s] (.ret (.sl (pv (offs 0 (splitB 58 s))))) := by
  refine call_of_X (fn := Tryd.f93) 1 Tryd.func93 rfl (by decide +kernel) rfl ?_ ?_ ?_ ?_
  · rfl
  · intro h; exact absurd h (by rw [sr93]; decide)
  · intro v hv; injection hv with hv; subst hv; rfl
  intro st hs hd ho
  have hm : st.m = ⟨.nil, []⟩ := by subst hs; rfl
  have h0 : st.t.get 0 = .str s := by subst hs; rfl
  clear hs
  refine gPAS (aI @h0 <|@hm) ?_
  refine W_loopg (fun (i : Nat) st => st.dfs = [] ∧ st.m.out.length = 0 ∧ st.t.get 0 = .str s ∧ st.t.get 4 = vn i ∧ i ≤ s.length ∧
    ∃ g, st.t.get 3 = .rs ⟨0, 7, 0, g⟩ 119 0 (offs 0 (splitB 58 (s.take i))).length ∧ st.m.row ⟨0, 7, 0, g⟩ = some ⟨g, 119, true, false, pv (offs 0 (splitB 58 (s.take i)))⟩) (fun i => s.length - i) 0 ?_ ?_
  · refine ⟨hd, ?_, ?_, ?_, Nat.zero_le _, ⟨1, ?_, ?_⟩⟩
    all_goals (try refine f0 (aI @h0 <|@hm) ?_);all_goals try exact True.intro
    all_goals rfl
  clear hd ho h0 hm
  rintro i st ⟨hd, ho, h0, h4, hi, ⟨g, h3, r3⟩⟩
  have hcnt := splitB_count 58 (s.take i)
  have hoff := offs_length (splitB 58 (s.take i)) 0
  have hLb : (offs 0 (splitB 58 (s.take i))).length < 4294967290 := by rw [List.length_take] at hcnt; omega
  refine gP (aI @h0 <|@h4) ?_
  refine cnd (fun h => ?_) (fun h => ?_)
  · have hi' : i < s.length := by have := of_decide_eq_true h; omega
    clear h
    obtain ⟨b, hb⟩ : ∃ b, s[i]? = some b := ⟨s[i], by simp⟩
    have htk : s.take (i + 1) = s.take i ++ [b] := by rw [List.take_add_one, hb]; rfl
    obtain ⟨l, p, e1, e2⟩ := splitB_snoc 58 b (s.take i)
    obtain ⟨x, hx1, hx2⟩ := splitB_suffix 58 (s.take i) l p e1
    have hxl : x.length + p.length = i := by
      have := congrArg List.length hx1
      rw [List.length_take, List.length_append] at this; omega
    have eI : V.int .i64 (wr .i64 ((i : Int) + 1)) = vn (i + 1) := by rw [wr_i64 (by omega) (by omega)]; rfl
    have hL : offs 0 (splitB 58 (s.take i)) = offs 0 l ++ [(p, x.length)] := by rw [e1, offs_append, hx2]; simp [offs]
    have hlen : (offs 0 (splitB 58 (s.take i))).length = (offs 0 l).length + 1 := by rw [hL]; simp
    have hii : (0 : Int) ≤ (i : Int) := by omega
    rw [← htk] at e2
    rw [hlen] at h3 hLb
    rw [hL] at r3
    by_cases c : b = 58
    · have hq : V.bool (((b.toNat : Nat) : Int) == 58) = .bool true := by rw [c]; rfl
      rw [if_pos c] at e2
      have hL2 : offs 0 (splitB 58 (s.take (i + 1))) = offs 0 l ++ [(p, x.length)] ++ [([], i + 1)] := by
        rw [e2, show l ++ [p, []] = l ++ [p] ++ [[]] by simp, offs_append, offs_append, ← hx2]
        simp [offs]; omega
      have hcut : cut (pv (offs 0 l ++ [(p, x.length)])) 0 ((offs 0 l).length + 1) = pv (offs 0 l ++ [(p, x.length)]) := by
        have := cut_pv (offs 0 l ++ [(p, x.length)])
        rwa [List.length_append, List.length_singleton] at this
      have happ : pv (offs 0 l ++ [(p, x.length)]) ++ [.agg [.str [], vn (i + 1)]] = pv (offs 0 l ++ [(p, x.length)] ++ [([], i + 1)]) := by simp [pv]
      have hroom : ((offs 0 l).length + 1 + 1) * 27 ≤ 1099511627776 := by omega
      clear hcnt hoff hx1 hx2 htk hxl e1 e2 c hi
      refine gP (aI @h0 <|aI @h4 <|aI @hb <|aI @hq <|@hii) ?_
      refine cnd (fun h => ?_) (fun h => ?_)
      · refine gPAS (aI @cut_one <|aI @hcut <|aI @happ <|aI @h3 <|aI @h4 <|aI @r3 <|aI @ho <|aI @eI <|aI @hroom <|@pv_length) ?_
        refine ⟨i + 1, ⟨hd, ?_, ?_, ?_, hi', ⟨g + 1, ?_, ?_⟩⟩, by omega⟩
        all_goals (try refine f0 (aI @h0 <|aI @ho <|aI @hL2 <|@List.length_append.{0}) ?_);all_goals try exact True.intro
      · simp at h
    · have hq : V.bool (((b.toNat : Nat) : Int) == 58) = .bool false := by
        congr 1
        rw [beq_eq_false_iff_ne]
        intro e
        exact c (UInt8.toNat_inj.1 (by have : b.toNat = 58 := by omega
                                       rw [this]; rfl))
      rw [if_neg c] at e2
      have hL2 : offs 0 (splitB 58 (s.take (i + 1))) = offs 0 l ++ [(p ++ [b], x.length)] := by rw [e2, offs_append, hx2]; simp [offs]
      have eK : V.int .i64 (wr .i64 ((((offs 0 l).length + 1 : Nat) : Int) - 1)) = vn (offs 0 l).length := by rw [wr_i64 (by omega) (by omega)]; congr 1; omega
      have hgk : (pv (offs 0 l ++ [(p, x.length)]))[(offs 0 l).length]? = some (.agg [.str p, vn x.length]) := by simp [pv]
      have hset : (pv (offs 0 l ++ [(p, x.length)])).set (offs 0 l).length (.agg [.str (p ++ [b]), vn x.length]) = pv (offs 0 l ++ [(p ++ [b], x.length)]) := by
        simp only [pv, List.map_append, List.map_cons, List.map_nil]
        rw [List.set_append_right _ _ (by simp)]
        simp
      have hstr : (s.drop x.length).take (i + 1 - x.length) = p ++ [b] := by
        have h1 : s.take (i + 1) = x ++ (p ++ [b]) := by rw [htk, hx1, List.append_assoc]
        rw [← List.drop_take, h1, List.drop_left]
      have k1 : ((offs 0 l).length : Int) < (((offs 0 l).length + 1 : Nat) : Int) := by omega
      have k2 : (0 : Int) ≤ ((offs 0 l).length : Int) := by omega
      have k3 : (0 : Int) ≤ (x.length : Int) := by omega
      have k4 : (x.length : Int) ≤ ((i + 1 : Nat) : Int) := by omega
      have k5 : ((i + 1 : Nat) : Int) ≤ (s.length : Int) := by omega
      clear hcnt hoff hx1 hx2 htk hxl e1 e2 c hi
      refine gP (aI @h0 <|aI @h4 <|aI @hb <|aI @hq <|@hii) ?_
      refine cnd (fun h => ?_) (fun h => ?_)
      · simp at h
      refine gPAS (aI @h0 <|aI @h3 <|aI @h4 <|aI @r3 <|aI @ho <|aI @eI <|aI @eK <|aI @hgk <|aI @hset <|aI @hstr <|aI @k1 <|aI @k2 <|aI @k3 <|aI @k4 <|aI @k5 <|@pv_length) ?_
      refine ⟨i + 1, ⟨hd, ?_, ?_, ?_, hi', ⟨g, ?_, ?_⟩⟩, by omega⟩
      all_goals (try refine f0 (aI @h0 <|aI @h3 <|aI @ho <|aI @hL2 <|@List.length_append.{0}) ?_);all_goals try exact True.intro
  · have hI : i = s.length := by
      have h1 : ¬ (i : Int) < (s.length : Int) := of_decide_eq_false h
      omega
    subst hI
    rw [List.take_length] at h3 r3 hLb
    refine gPS @h3 ?_
    refine rPAS hd (aI @Tryd.results93 <|aI @ho <|aI @h3 <|aI @r3 <|aI @cut_pv <|@pv_length) ?_
    try exact True.intro
end Go.Proofs.YtpocekfifokndaaDoor
namespace Go.Proofs.YtpocekfifokndaaDoor
open Go Go.Ev Go.Pl
set_option maxRecDepth 100000
set_option maxHeartbeats 4000000
theorem P94 (s : List UInt8) (hs0 : s.length < 1000000000000) : Ans X 94 [.str s] (.ret (.tup [vn (partS s).1, .bool (partS s).2])) := by
  refine call_of_X (fn := Tryd.f94) 1 Tryd.func94 rfl (by decide +kernel) rfl ?_ ?_ ?_ ?_
  · rfl
  · exact fun _ => rfl
  · intro v hv; injection hv with hv; subst hv; rfl
  intro st hs hd ho
  have h0 : st.t.get 0 = .str s := by subst hs; rfl
  clear hs
  by_cases c1 : s.length = 0
  · have c1' : ((s.length : Nat) : Int) < 1 := by omega
    refine gP (aI @h0 <|@c1') ?_
    refine cnd (fun h => ?_) (fun h => ?_)
    · refine gP @Nat.zero_add ?_
      refine rP hd @Tryd.results94 ?_
      try exact True.intro
      rw [partS, if_pos (.inl c1)]; rfl
    · simp at h
  have c1' : ¬ ((s.length : Nat) : Int) < 1 := by omega
  by_cases c2 : 2 < s.length
  · have c2' : ((s.length : Nat) : Int) > 2 := by omega
    refine gP (aI @h0 <|aI @c1' <|@c2') ?_
    refine cnd (fun h => ?_) (fun h => ?_)
    · refine gP @Nat.zero_add ?_
      refine rP hd @Tryd.results94 ?_
      try exact True.intro
      rw [partS, if_pos (.inr (.inl c2))]; rfl
    · simp at h
  have c2' : ¬ ((s.length : Nat) : Int) > 2 := by omega
  obtain ⟨b0, hb0⟩ : ∃ b, s[0]? = some b := ⟨s[0]'(by omega), by simp⟩
  by_cases c3 : s.length = 2 ∧ b0 = 48
  · have c3' : (((s.length : Nat) : Int) == 2) = true := by rw [c3.1]; rfl
    have c4 : (((b0.toNat : Nat) : Int) == 48) = true := by rw [c3.2]; rfl
    have hR : partS s = (0, false) := by rw [partS, if_pos (.inr (.inr ⟨c3.1, by rw [hb0, c3.2]⟩))]
    rw [hR]
    clear c3 hR c1 c2
    refine gP (aI @h0 <|aI @c1' <|aI @c2' <|aI @c3' <|aI @hb0 <|@c4) ?_
    refine cnd (fun h => ?_) (fun h => ?_)
    · refine gP @Nat.zero_add ?_
      refine rP hd @Tryd.results94 ?_
      try exact True.intro
      rfl
    · simp at h
  have hc : ¬ (s.length = 0 ∨ 2 < s.length ∨ (s.length = 2 ∧ s[0]? = some 48)) := by
    rintro (h | h | ⟨h, h'⟩)
    · exact c1 h
    · exact c2 h
    · rw [hb0] at h'; exact c3 ⟨h, Option.some.inj h'⟩
  have hyes : s.all (fun b => decide (48 ≤ b.toNat) && decide (b.toNat ≤ 57)) = true → partS s = (decV s, true) := fun h => by rw [partS, if_neg hc, if_pos h]
  have hno : ∀ (k : Nat) (b : UInt8), s[k]? = some b → ¬ (48 ≤ b.toNat ∧ b.toNat ≤ 57) → partS s = (0, false) := fun k b hk hb => by
    rw [partS, if_neg hc, if_neg]
    intro h
    have := List.all_eq_true.1 h b (List.mem_of_getElem? hk)
    simp only [Bool.and_eq_true, decide_eq_true_eq] at this
    exact hb this
  have hb4 : s.length = 2 → (((b0.toNat : Nat) : Int) == 48) = false := fun h => by
    rw [beq_eq_false_iff_ne]
    intro e
    refine c3 ⟨h, ?_⟩
    apply UInt8.toNat_inj.1
    have : b0.toNat = 48 := by omega
    rw [this]; rfl
  have hl2 : s.length ≤ 2 := by omega
  clear c1 c2 c3 hc hs0
  iterate 5 (first
    | with_reducible first | refine W_seq ?_ | refine W_skip ?_ | refine W_label ?_ | refine W_ret ?_ | refine W_exit ?_ | refine W_block ?_ | refine thenI ?_ | refine thenRet ?_ | refine thenExit ?_ | refine blockRet ?_ | refine blockI ?_ | refine blockExit ?_ | refine blockExitNe rfl ?_
    | (with_reducible refine W_region_k ?_
       intro K hK
       simp (maxSteps := 2000000) (disch := omega) only [SA, ofValue, ofCell, bin, intBin, un, idx, Go.Ev.builtin, calleeOf, V.isNilS, V.depthOk, depth1, V.ok1, V.isAgg, V.cells, isConst, Nat.reduceBEq, Nat.reduceEqDiff, ↓reduceIte, Nat.reduceLeDiff, Nat.reduceAdd, Nat.reduceMul, Nat.reduceSub, Nat.reduceLT, Int.reduceAdd, Int.reduceSub, Int.reduceMul, Int.reduceLT, Int.reduceLE, Int.reduceToNat, Int.reduceNeg, reduceIte, reduceCtorEq, SPx, h0]
       refine hK _ _ ?_
       clear hK K)
  )
  refine W_mid (fun st => st.dfs = [] ∧ st.t.get 0 = .str s ∧ st.t.get 23 = .bool false) ?_ ?_
  · by_cases hq : s.length = 2
    · have c3' : (((s.length : Nat) : Int) == 2) = true := by rw [hq]; rfl
      have hb4 := hb4 hq
      refine gP (aI @h0 <|aI @c1' <|aI @c2' <|aI @c3' <|aI @hb0 <|@hb4) ?_
      refine ⟨hd, ?_, ?_⟩
      all_goals (try refine f0 @h0 ?_);all_goals try exact True.intro
    · have c3' : (((s.length : Nat) : Int) == 2) = false := by rw [beq_eq_false_iff_ne]; omega
      refine gP (aI @h0 <|aI @c1' <|aI @c2' <|aI @c3' <|@hb0) ?_
      refine ⟨hd, ?_, ?_⟩
      all_goals (try refine f0 @h0 ?_);all_goals try exact True.intro
  clear hd h0 ho hb4 hb0 c1' c2'
  rintro st ⟨hd, h0, h23⟩
  refine gP @h23 ?_
  with_reducible refine W_cond2 (by simp only [SO, ofValue, ofCell, Nat.reduceBEq, Nat.reduceEqDiff, ↓reduceIte, h23]; rfl) (fun h => ?_) (fun h => ?_)
  · simp at h
  refine gP @h0 ?_
  refine W_loopg (fun (k : Nat) st => st.dfs = [] ∧ st.t.get 0 = .str s ∧ st.t.get 5 = vn k ∧ st.t.get 4 = vn (decV (s.take k)) ∧ k ≤ s.length ∧ decV (s.take k) < 100 ∧ ∀ b ∈ s.take k, 48 ≤ b.toNat ∧ b.toNat ≤ 57) (fun k => s.length - k) 0 ?_ ?_
  · refine ⟨hd, ?_, ?_, ?_, Nat.zero_le _, by simp [decV], by simp⟩
    all_goals (try refine f0 @h0 ?_);all_goals try exact True.intro
    all_goals rfl
  clear hd h0 h23 h
  rintro k st ⟨hd, h0, h5, h4, hk, hv, hall⟩
  refine gP (aI @h0 <|@h5) ?_
  refine cnd (fun h => ?_) (fun h => ?_)
  · have hk' : k < s.length := by have := of_decide_eq_true h; omega
    clear h
    obtain ⟨b, hb⟩ : ∃ b, s[k]? = some b := ⟨s[k]'(by omega), by simp⟩
    have hbn := hno k b hb
    have htk : s.take (k + 1) = s.take k ++ [b] := by rw [List.take_add_one, hb]; rfl
    have hdv : decV (s.take (k + 1)) = 10 * decV (s.take k) + (b.toNat - 48) := by rw [htk, decV, List.foldl_append]; rfl
    have hall' : (48 ≤ b.toNat ∧ b.toNat ≤ 57) → ∀ x ∈ s.take (k + 1), 48 ≤ x.toNat ∧ x.toNat ≤ 57 := fun hb' x hx => by
      rw [htk] at hx
      rcases List.mem_append.1 hx with hx | hx
      · exact hall x hx
      · rw [List.mem_singleton.1 hx]; exact hb'
    have hlt' : (48 ≤ b.toNat ∧ b.toNat ≤ 57) → decV (s.take (k + 1)) < 100 := fun hb' => decV_lt _ (by rw [List.length_take]; omega) (hall' hb')
    clear hall hno hyes htk
    generalize hn : b.toNat = n at hbn hdv hall' hlt'
    generalize hv' : decV (s.take (k + 1)) = v' at hdv hlt'
    generalize decV (s.take k) = v at hv h4 hdv
    have hnv : V.int .u8 ((b.toNat : Nat) : Int) = V.int .u8 (n : Int) := by rw [hn]
    clear hn
    by_cases q1 : (n : Int) < 48
    · rw [hbn (by omega)]
      clear hbn hdv hall' hlt'
      refine gP (aI @h0 <|aI @h5 <|aI @hb <|aI @hnv <|@q1) ?_
      refine cnd (fun h => ?_) (fun h => ?_)
      · refine gP @Nat.zero_add ?_
        refine rP hd @Tryd.results94 ?_
        try exact True.intro
        rfl
      · simp at h
    by_cases q2 : (n : Int) > 57
    · rw [hbn (by omega)]
      clear hbn hdv hall' hlt'
      refine gP (aI @h0 <|aI @h5 <|aI @hb <|aI @hnv <|aI @q1 <|@q2) ?_
      refine cnd (fun h => ?_) (fun h => ?_)
      · refine gP @Nat.zero_add ?_
        refine rP hd @Tryd.results94 ?_
        try exact True.intro
        rfl
      · simp at h
    have hall' := hall' (by omega)
    have hlt' := hlt' (by omega)
    have h48 : 48 ≤ n := by omega
    have hsub : V.int .u8 (wr .u8 ((n : Int) - 48)) = V.int .u8 ((n : Int) - 48) := by
      congr 1
      have e : (n : Int) - 48 = ((n - 48 : Nat) : Int) := by omega
      rw [e]; exact wr_u8 (by omega)
    have hmul : V.int .i64 (wr .i64 (10 * (v : Int))) = V.int .i64 (10 * (v : Int)) := by rw [wr_i64 (by omega) (by omega)]
    have hadd : V.int .i64 (wr .i64 (10 * (v : Int) + ((n : Int) - 48))) = V.int .i64 (v' : Int) := by
      rw [wr_i64 (by omega) (by omega)]; congr 1; omega
    have hcv : V.int .i64 (wr .i64 ((n : Int) - 48)) = V.int .i64 ((n : Int) - 48) := by rw [wr_i64 (by omega) (by omega)]
    have hkk : V.int .i64 (wr .i64 ((k : Int) + 1)) = V.int .i64 ((k + 1 : Nat) : Int) := by rw [wr_i64 (by omega) (by omega)]; rfl
    have hall' : k < s.length ∧ ∀ x ∈ List.take (k + 1) s, 48 ≤ x.toNat ∧ x.toNat ≤ 57 := ⟨hk', hall'⟩
    clear hbn hdv hk hl2
    refine gP (aI @h0 <|aI @h4 <|aI @h5 <|aI @hb <|aI @hnv <|aI @q1 <|@q2) ?_
    refine cnd (fun h => ?_) (fun h => ?_)
    · simp at h
    refine gP (aI @h0 <|aI @h4 <|aI @h5 <|aI @hb <|aI @hnv <|aI @hsub <|aI @hmul <|aI @hadd <|aI @hcv <|@hkk) ?_
    refine ⟨k + 1, ⟨hd, ?_, ?_, ?_, hk', by rw [hv']; exact hlt', hall'.2⟩, by omega⟩
    all_goals (try refine f0 (aI @h0 <|@hv') ?_);all_goals try exact True.intro
  · have hk' : k = s.length := by have := of_decide_eq_false h; omega
    rw [hk', List.take_length] at h4 hall
    rw [hyes (List.all_eq_true.2 fun b hb => by have := hall b hb; simp only [Bool.and_eq_true, decide_eq_true_eq]; exact this)]
    clear hall hyes hno h hv
    refine gP @h4 ?_
    refine rP hd @Tryd.results94 ?_
    try exact True.intro
end Go.Proofs.YtpocekfifokndaaDoor
namespace Go.Proofs.YtpocekfifokndaaDoor
open Go Go.Ev Go.Pl
set_option maxRecDepth 100000
set_option maxHeartbeats 4000000
theorem pv_get? (l : List (List UInt8 × Nat)) (i : Nat) : (pv l)[i]? = l[i]?.map fun p => .agg [.str p.1, vn p.2] := by simp [pv]
theorem P35 (s : List UInt8) (hlen : s.length < 4294967281) : Ans X 35 [.str s] (.ret (.tup [.sl (nats (parseS s).1), vn (parseS s).2.1, vi (parseS s).2.2])) := by
  refine call_of_X (fn := Tryd.f35) 1 Tryd.func35 rfl (by decide +kernel) rfl ?_ ?_ ?_ ?_
  · rfl
  · intro h; exact absurd h (by rw [sr35]; decide)
  · intro v hv; injection hv with hv; subst hv; rfl
  intro st hs hd ho
  have hm : st.m = ⟨.nil, []⟩ := by subst hs; rfl
  have h0 : st.t.get 0 = .str s := by subst hs; rfl
  clear hs
  repeat (first
    | with_reducible first | refine W_seq ?_ | refine W_skip ?_ | refine W_label ?_ | refine W_ret ?_ | refine W_exit ?_ | refine W_block ?_ | refine thenI ?_ | refine thenRet ?_ | refine thenExit ?_ | refine blockRet ?_ | refine blockI ?_ | refine blockExit ?_ | refine blockExitNe rfl ?_
    | (with_reducible refine W_region_k ?_
       intro K hK
       simp (maxSteps := 2000000) (disch := omega) only [SA, ofValue, ofCell, bin, intBin, un, idx, Go.Ev.builtin, calleeOf, V.isNilS, V.depthOk, depth1, V.ok1, V.isAgg, V.cells, isConst, Nat.reduceBEq, Nat.reduceEqDiff, ↓reduceIte, Nat.reduceLeDiff, Nat.reduceAdd, Nat.reduceMul, Nat.reduceSub, Nat.reduceLT, Int.reduceAdd, Int.reduceSub, Int.reduceMul, Int.reduceLT, Int.reduceLE, Int.reduceToNat, Int.reduceNeg, reduceIte, reduceCtorEq, SPx, strBin, h0, hm]
       refine hK _ _ ?_
       clear hK K)
    | (refine W_draw_k (by decide +kernel) ?_
       intro K hK
       simp (maxSteps := 2000000) (disch := omega) only [SA, ofValue, ofCell, bin, intBin, un, idx, Go.Ev.builtin, calleeOf, V.isNilS, V.depthOk, depth1, V.ok1, V.isAgg, V.cells, isConst, Nat.reduceBEq, Nat.reduceEqDiff, ↓reduceIte, Nat.reduceLeDiff, Nat.reduceAdd, Nat.reduceMul, Nat.reduceSub, Nat.reduceLT, Int.reduceAdd, Int.reduceSub, Int.reduceMul, Int.reduceLT, Int.reduceLE, Int.reduceToNat, Int.reduceNeg, reduceIte, reduceCtorEq, SD, SPx, strBin, h0, hm]
       repeat (refine ⟨by decide +kernel, ?_⟩)
       refine hK _ _ ?_
       clear hK K))
  refine cnd (fun h => ?_) (fun h => ?_)
  · refine gP @Nat.zero_add ?_
    have h := eq_of_beq h
    refine rPAS hd @Tryd.results35 ?_
    try exact True.intro
    rw [parseS, if_pos h]
    rfl
  have hne : ¬ s = [48] := fun e => by rw [e] at h; simp at h
  rw [parseS, if_neg hne]
  clear h hne
  have hpl := splitB_len 58 s
  have hcnt := splitB_count 58 s
  have cP := P93 s hlen
  repeat (first
    | with_reducible first | refine W_seq ?_ | refine W_skip ?_ | refine W_label ?_ | refine W_ret ?_ | refine W_exit ?_ | refine W_block ?_ | refine thenI ?_ | refine thenRet ?_ | refine thenExit ?_ | refine blockRet ?_ | refine blockI ?_ | refine blockExit ?_ | refine blockExitNe rfl ?_
    | (with_reducible refine W_region_k ?_
       intro K hK
       simp (maxSteps := 2000000) (disch := omega) only [SA, ofValue, ofCell, bin, intBin, un, idx, Go.Ev.builtin, calleeOf, V.isNilS, V.depthOk, depth1, V.ok1, V.isAgg, V.cells, isConst, Nat.reduceBEq, Nat.reduceEqDiff, ↓reduceIte, Nat.reduceLeDiff, Nat.reduceAdd, Nat.reduceMul, Nat.reduceSub, Nat.reduceLT, Int.reduceAdd, Int.reduceSub, Int.reduceMul, Int.reduceLT, Int.reduceLE, Int.reduceToNat, Int.reduceNeg, reduceIte, reduceCtorEq, SPx, SSx, appendTo, elemsOf, strBin, h0, hm, co93, sr93, cP.iff, un]
       refine hK _ _ ?_
       clear hK K)
    | (refine W_draw_k (by decide +kernel) ?_
       intro K hK
       simp (maxSteps := 2000000) (disch := omega) only [SA, ofValue, ofCell, bin, intBin, un, idx, Go.Ev.builtin, calleeOf, V.isNilS, V.depthOk, depth1, V.ok1, V.isAgg, V.cells, isConst, Nat.reduceBEq, Nat.reduceEqDiff, ↓reduceIte, Nat.reduceLeDiff, Nat.reduceAdd, Nat.reduceMul, Nat.reduceSub, Nat.reduceLT, Int.reduceAdd, Int.reduceSub, Int.reduceMul, Int.reduceLT, Int.reduceLE, Int.reduceToNat, Int.reduceNeg, reduceIte, reduceCtorEq, SD, SPx, SSx, appendTo, elemsOf, strBin, h0, hm, co93, sr93, cP.iff, un]
       repeat (refine ⟨by decide +kernel, ?_⟩)
       refine hK _ _ ?_
       clear hK K))
  generalize hL : splitB 58 s = L at hpl hcnt
  have hpl : ∀ p ∈ L, p.length < 4294967281 := fun p hp => by have := hpl p hp; omega
  have hcnt : L.length < 4294967300 := by omega
  clear hL h0 hlen cP
  have hOl := offs_length L 0
  refine W_loopg (fun (x : Nat × Nat × List Nat) st => st.dfs = [] ∧ st.m.out.length = 0 ∧ st.t.get 5 = .sl (pv (offs 0 L)) ∧ st.t.get 7 = vn x.1 ∧
    Held st.m 6 1 (st.t.get 6) x.2.2 ∧ x.1 ≤ L.length ∧ x.1 ≤ 16 ∧ x.2.2.length = x.1 ∧ (offs 0 L).drop x.1 = offs x.2.1 (L.drop x.1) ∧ parseL L.length 0 0 [] L = parseL L.length x.1 x.2.1 x.2.2 (L.drop x.1)) (fun x => L.length - x.1) (0, 0, []) ?_ ?_
  · refine ⟨hd, ?_, ?_, ?_, ⟨1, 0, ?_, ?_, .inr ⟨rfl, rfl⟩⟩, Nat.zero_le _, Nat.zero_le _, rfl, rfl, rfl⟩
    all_goals (try refine f0 @hm ?_);all_goals try exact True.intro
    all_goals rfl
  clear hd ho hm
  rintro ⟨i, at', acc⟩ st ⟨hd, ho, h5, h7, ⟨g, ty, h6, r6, hty⟩, hi, hi16, hacc, hof, hpe⟩
  dsimp only at h7 h6 r6 hty hi hi16 hacc hof hpe
  refine gPS (aI @h5 <|aI @h7 <|aI @pv_length <|@hOl) ?_
  refine cnd (fun h => ?_) (fun h => ?_)
  · have h := of_decide_eq_true h
    have hi' : i < L.length := by omega
    obtain ⟨p, hp⟩ : ∃ p, L[i]? = some p := ⟨L[i], by simp⟩
    have hpm := hpl p (List.mem_of_getElem? hp)
    have hdrop : L.drop i = p :: L.drop (i + 1) := by
      rw [List.drop_eq_getElem_cons hi']
      congr 1
      rw [List.getElem?_eq_getElem hi'] at hp
      exact Option.some.inj hp
    rw [hdrop, parseL] at hpe
    rw [hdrop, offs] at hof
    have hO : (offs 0 L)[i]? = some (p, at') := by
      have := congrArg (fun l => l[0]?) hof
      simpa using this
    have hof' : (offs 0 L).drop (i + 1) = offs (at' + (p.length + 1)) (L.drop (i + 1)) := by
      have := congrArg (List.drop 1) hof
      simpa [List.drop_drop, Nat.add_comm] using this
    have c := P94 p (by omega)
    have hlt := partS_lt p
    generalize hq : partS p = q at c hlt hpe
    obtain ⟨d, ok⟩ := q
    dsimp only at c hlt hpe
    clear hq hdrop hof h
    refine gPS (aI @pv_get? <|aI @hO <|aI @h5 <|aI @h7 <|aI @co94 <|aI @sr94 <|@c.iffx) ?_
    rw [hpe]
    refine cnd (fun h => ?_) (fun h => ?_)
    · have h : ok = false := by simpa using h
      clear hpe
      refine gPS (aI @pv_get? <|aI @hO <|aI @h5 <|@h7) ?_
      refine cnd (fun h => ?_) (fun h => ?_)
      · refine gPAS (aI @pv_get? <|aI @hO <|aI @ho <|aI @h5 <|@h7) ?_
        refine rPAS hd (aI @Tryd.results35 <|@ho) ?_
        try exact True.intro
        rfl
      · simp at h
    have hok : ¬ ok = false := by simpa using h
    rw [if_neg hok] at hpe ⊢
    clear h
    refine gP @Nat.zero_add ?_
    refine cnd (fun h => ?_) (fun h => ?_)
    · have h := of_decide_eq_true h
      clear hpe
      refine gPS (aI @h5 <|@h7) ?_
      refine cnd (fun h => ?_) (fun h => ?_)
      · refine gPAS (aI @pv_get? <|aI @hO <|aI @ho <|aI @h5 <|@h7) ?_
        refine rPAS hd (aI @Tryd.results35 <|@ho) ?_
        try exact True.intro
        rfl
      · simp at h
    have h := of_decide_eq_false h
    have h60 : ¬ 60 ≤ d := by omega
    rw [if_neg h60] at hpe ⊢
    clear h
    refine gP @h7 ?_
    refine cnd (fun h => ?_) (fun h => ?_)
    · have h := of_decide_eq_true h
      clear hpe
      refine gPS (aI @h5 <|@h7) ?_
      refine cnd (fun h => ?_) (fun h => ?_)
      · refine gPAS (aI @pv_get? <|aI @hO <|aI @ho <|aI @h5 <|@h7) ?_
        refine rPAS hd (aI @Tryd.results35 <|@ho) ?_
        try exact True.intro
        rfl
      · simp at h
    have h := of_decide_eq_false h
    have hn16 : ¬ i = 16 := by omega
    rw [if_neg hn16] at hpe ⊢
    clear h
    refine W_seq ?_
    refine W_mid (fun st' => st'.dfs = [] ∧ st'.m = st.m ∧ st'.t.get 6 = .rs ⟨0, 6, 1, g⟩ ty 0 acc.length ∧ st'.t.get 5 = .sl (pv (offs 0 L)) ∧ st'.t.get 7 = vn i ∧
      st'.t.get 8 = vn d ∧ st'.t.get 10 = vi 0 ∧ st'.t.get 39 = .bool (decide (d = 0 ∧ (i = 0 ∨ i = L.length - 1)))) ?_ ?_
    · clear hpe hlt hpl
      by_cases d0 : d = 0
      · have e1 : (((d : Nat) : Int) == 0) = true := by rw [d0]; rfl
        by_cases i0 : i = 0
        · have e2 : (((i : Nat) : Int) == 0) = true := by rw [i0]; rfl
          refine gPS (aI @e1 <|aI @e2 <|@h7) ?_
          refine ⟨hd, rfl, ?_, ?_, ?_, ?_, ?_, ?_⟩
          all_goals (try refine f0 (aI @h5 <|aI @h6 <|@h7) ?_);all_goals try exact True.intro
          all_goals first | rfl | rw [decide_eq_true (p := d = 0 ∧ (i = 0 ∨ i = L.length - 1)) ⟨d0, .inl i0⟩]
        · have e2 : (((i : Nat) : Int) == 0) = false := by rw [beq_eq_false_iff_ne]; omega
          have e4 : V.int .i64 (wr .i64 ((L.length : Int) - 1)) = V.int .i64 ((L.length - 1 : Nat) : Int) := by rw [wr_i64 (by omega) (by omega)]; congr 1; omega
          have e5 : V.bool (((i : Nat) : Int) == ((L.length - 1 : Nat) : Int)) = V.bool (decide (i = L.length - 1)) := by
            congr 1
            by_cases h : i = L.length - 1
            · rw [decide_eq_true h, ← h, beq_self_eq_true]
            · rw [decide_eq_false h, beq_eq_false_iff_ne]; omega
          refine gPS (aI @e1 <|aI @e2 <|aI @e4 <|aI @e5 <|aI @h5 <|aI @h7 <|aI @pv_length <|@hOl) ?_
          refine ⟨hd, rfl, ?_, ?_, ?_, ?_, ?_, ?_⟩
          all_goals (try refine f0 (aI @h5 <|aI @h6 <|@h7) ?_);all_goals try exact True.intro
          congr 1
          by_cases h : i = L.length - 1
          · rw [decide_eq_true h, decide_eq_true (p := d = 0 ∧ (i = 0 ∨ i = L.length - 1)) ⟨d0, .inr h⟩]
          · rw [decide_eq_false h, decide_eq_false (p := d = 0 ∧ (i = 0 ∨ i = L.length - 1)) (fun e => by omega)]
      · have e1 : (((d : Nat) : Int) == 0) = false := by rw [beq_eq_false_iff_ne]; omega
        refine gPS @e1 ?_
        refine ⟨hd, rfl, ?_, ?_, ?_, ?_, ?_, ?_⟩
        all_goals (try refine f0 (aI @h5 <|aI @h6 <|@h7) ?_);all_goals try exact True.intro
        all_goals first | rfl | rw [decide_eq_false (p := d = 0 ∧ (i = 0 ∨ i = L.length - 1)) (fun e => d0 e.1)]
    intro st' hM
    clear hd
    obtain ⟨hd, hm', h6', h5', h7', h8', h10', h39'⟩ := hM
    rw [← hm'] at r6 ho
    clear hm' h5 h6 h7
    refine gP @h39' ?_
    with_reducible refine W_cond2 (by simp only [SO, ofValue, ofCell, Nat.reduceBEq, Nat.reduceEqDiff, ↓reduceIte, h39']; rfl) (fun h => ?_) (fun h => ?_)
    · have h := of_decide_eq_true h
      rw [if_pos h] at hpe ⊢
      clear hpe
      refine gPS (aI @h5' <|@h7') ?_
      refine cnd (fun h => ?_) (fun h => ?_)
      · refine gPAS (aI @pv_get? <|aI @hO <|aI @ho <|aI @h5' <|@h7') ?_
        refine rPAS hd (aI @Tryd.results35 <|@ho) ?_
        try exact True.intro
        rfl
      · simp at h
    · have h := of_decide_eq_false h
      rw [if_neg h] at hpe ⊢
      have e3 : V.int .i64 (wr .i64 ((i : Int) + 1)) = V.int .i64 ((i + 1 : Nat) : Int) := by rw [wr_i64 (by omega) (by omega)]; congr 1
      have hinv : i + 1 ≤ 16 ∧ i + 1 ≤ L.length ∧ L.length - (i + 1) < L.length - i := by omega
      have hacc' : (acc ++ [d]).length = i + 1 := by simp [hacc]
      clear h hlt hpm
      refine gPS @h10' ?_
      refine cnd (fun h => ?_) (fun h => ?_)
      · simp at h
      refine gPAS (aI @e3 <|aI @h6' <|aI @h7' <|aI @h8' <|aI @r6 <|aI @ho <|@hty) ?_
      refine ⟨(i + 1, at' + (p.length + 1), acc ++ [d]), ⟨hd, ?_, ?_, ?_, ⟨g + 1, 3, ?_, ?_, .inl rfl⟩, hinv.2.1, hinv.1, hacc', hof', rfl⟩, hinv.2.2⟩
      all_goals (try refine fS (aI @h5' <|aI @h6' <|aI @h7' <|@ho) ?_);all_goals try exact True.intro
  · have h := of_decide_eq_false h
    obtain rfl : i = L.length := by omega
    rw [List.drop_length, parseL] at hpe
    rw [hpe]
    refine gPS @h6 ?_
    refine rPAS hd (aI @Tryd.results35 <|aI @ho <|aI @h6 <|@r6) ?_
    try exact True.intro
    rfl
end Go.Proofs.YtpocekfifokndaaDoor
namespace Go.Proofs.YtpocekfifokndaaDoor
open Go Go.Ev Go.Pl
set_option maxRecDepth 100000
set_option maxHeartbeats 4000000
def ofS (n : Int) : List Nat × Int := if n < 0 ∨ 1099511627776 < n then ([], 8) else (digB n.toNat, 0)
theorem P36 (n : Int) : Ans X 36 [vi n] (.ret (.tup [.sl (nats (ofS n).1), vi (ofS n).2])) := by
  refine call_of_X (fn := Tryd.f36) 1 Tryd.func36 rfl (by decide +kernel) rfl ?_ ?_ ?_ ?_
  · rfl
  · intro h; exact absurd h (by rw [sr36]; decide)
  · intro v hv; injection hv with hv; subst hv; rfl
  intro s hs hd ho
  have hm : s.m = ⟨.nil, []⟩ := by subst hs; rfl
  have h0 : s.t.get 0 = vi n := by subst hs; rfl
  clear hs
  by_cases c1 : n < 0
  · refine gP (aI @h0 <|aI @hm <|@c1) ?_
    refine cnd (fun h => ?_) (fun h => ?_)
    · refine gP @hm ?_
      refine rPAS hd (aI @Tryd.results36 <|@hm) ?_
      try exact True.intro
      rw [ofS, if_pos (.inl c1)]; rfl
    · simp at h
  by_cases c2 : n > 1099511627776
  · refine gP (aI @h0 <|aI @hm <|aI @c1 <|@c2) ?_
    refine cnd (fun h => ?_) (fun h => ?_)
    · refine gP @hm ?_
      refine rPAS hd (aI @Tryd.results36 <|@hm) ?_
      try exact True.intro
      rw [ofS, if_pos (.inr c2)]; rfl
    · simp at h
  obtain ⟨k, rfl⟩ : ∃ k : Nat, n = k := ⟨n.toNat, by omega⟩
  have hk16 : k < 60 ^ 16 := by omega
  have q1 := P88 k (by omega)
  have q2 := P81 (k * 60 ^ 72) (by
    calc k * 60 ^ 72 < 60 ^ 16 * 60 ^ 72 := Nat.mul_lt_mul_of_pos_right hk16 (by decide)
      _ ≤ 60 ^ 168 := by decide)
  rw [placeRes_whole hk16] at q2
  rw [ofS, if_neg (by omega), Int.toNat_natCast]
  clear hk16
  refine gP (aI @h0 <|aI @hm <|aI @c1 <|@c2) ?_
  refine cnd (fun h => ?_) (fun h => ?_)
  · simp at h
  refine gPAW (aI @h0 <|aI @hm <|aI @co88 <|aI @sr88 <|aI @co81 <|aI @sr81 <|aI @q1.iffx <|@q2.iffx) ?_
  refine rP hd @Tryd.results36 ?_
  try exact True.intro
theorem int_step (N j : Nat) (hj : 0 < j) : N / 60 ^ (j - 1) = N / 60 ^ j * 60 + dig N (j - 1) := by
  have := div_succ N (j - 1)
  rwa [show j - 1 + 1 = j by omega] at this
theorem P105 (N : Nat) (hN : N < 60 ^ 168) : Ans X 105 [wv N, vi 1099511627776] (.ret (.tup (if N / 60 ^ 72 ≤ 1099511627776 then [vn (N / 60 ^ 72), .bool true] else [vi 0, .bool false]))) := by
  refine call_of_X (fn := Tryd.f105) 2 Tryd.func105 rfl (by decide +kernel) rfl ?_ ?_ ?_ ?_
  · simp only [List.any_cons, List.any_nil, wv_refs]; rfl
  · intro _; split <;> rfl
  · intro v hv; injection hv with hv; subst hv; split <;> rfl
  intro s hs hd ho
  have hm : s.m = ⟨.nil, []⟩ := by subst hs; rfl
  have h0 : s.t.get 0 = .agg (wc (dig N)) := by subst hs; rfl
  have h1 : s.t.get 1 = vi 1099511627776 := by subst hs; rfl
  clear hs
  refine gPW (aI @h0 <|aI @h1 <|@hm) ?_
  refine W_loopg (fun (j : Nat) s => s.dfs = [] ∧ s.m.out.length = 0 ∧ s.t.get 1 = vi 1099511627776 ∧ s.t.get 2 = .ptr ⟨0, 2, 0, 1⟩ 0 0 ∧ s.t.get 6 = vn (N / 60 ^ j) ∧ s.t.get 7 = vn (j - 1) ∧
    s.m.row ⟨0, 2, 0, 1⟩ = some ⟨1, 100, false, false, [.agg (wc (dig N))]⟩ ∧ 72 ≤ j ∧ j ≤ 168 ∧ N / 60 ^ j ≤ 1099511627776) (fun j => j) 168 ?_ ?_
  · have hz : N / 60 ^ 168 = 0 := Nat.div_eq_of_lt hN
    rw [hz]
    refine ⟨hd, ?_, ?_, ?_, ?_, ?_, ?_, by decide, Nat.le_refl _, Nat.zero_le _⟩
    all_goals (try refine fW (aI @h0 <|aI @h1 <|@hm) ?_);all_goals try exact True.intro
    all_goals rfl
  clear hd ho hm h0 h1 hN
  rintro j s ⟨hd, ho, h1, h2, h6, h7, r2, hj1, hj2, hle⟩
  refine gP @h7 ?_
  refine cnd (fun h => ?_) (fun h => ?_)
  · have hj : 73 ≤ j := by have := of_decide_eq_true h; omega
    clear h
    have hst := int_step N j (by omega)
    have hd60 := dig_lt N (j - 1)
    have hmono : N / 60 ^ (j - 1) ≤ N / 60 ^ 72 := by
      have e : (60 : Nat) ^ (j - 1) = 60 ^ 72 * 60 ^ (j - 1 - 72) := by rw [← Nat.pow_add]; congr 1; omega
      rw [e, ← Nat.div_div_eq_div_mul]; exact Nat.div_le_self _ _
    generalize N / 60 ^ j = q at *
    generalize hdg : dig N (j - 1) = d at *
    have hidx : j - 1 < 168 := by omega
    have hi0 : (0 : Int) ≤ ((j - 1 : Nat) : Int) := by omega
    have hi1 : ((j - 1 : Nat) : Int) < (168 : Int) := by omega
    have hi2 : ((j - 1 : Nat) : Int) < ((168 : Nat) : Int) := by omega
    have hget : (wc (dig N))[j - 1]? = some (vn d) := by rw [wc_get _ hidx, hdg]
    have g1 : V.int .i64 (wr .i64 ((1099511627776 : Int) - d)) = vn (1099511627776 - d) := by rw [wr_i64 (by omega) (by omega)]; congr 1; omega
    have g2 : V.int .i64 (wr .i64 (Int.tdiv ((1099511627776 - d : Nat) : Int) 60)) = vn ((1099511627776 - d) / 60) := by rw [cast_tdiv60, wr_nat (by omega)]
    have g3 : V.int .i64 (wr .i64 ((q : Int) * 60)) = vn (q * 60) := by rw [cast_mul60, wr_nat (by omega)]
    have g5 : V.int .i64 (wr .i64 ((j - 1 : Nat) - (1 : Int))) = vn (j - 1 - 1) := by rw [wr_i64 (by omega) (by omega)]; congr 1; omega
    by_cases c : q > (1099511627776 - d) / 60
    · have c' : ((q : Nat) : Int) > (((1099511627776 - d) / 60 : Nat) : Int) := by omega
      rw [if_neg (by omega)]
      clear hst hmono hle
      repeat (first
        | with_reducible first | refine W_seq ?_ | refine W_skip ?_ | refine W_label ?_ | refine W_ret ?_ | refine W_exit ?_ | refine W_block ?_ | refine thenI ?_ | refine thenRet ?_ | refine thenExit ?_ | refine blockRet ?_ | refine blockI ?_ | refine blockExit ?_ | refine blockExitNe rfl ?_
        | (with_reducible refine W_region_k ?_
           intro K hK
           simp (maxSteps := 2000000) (disch := omega) only [SA, ofValue, ofCell, bin, intBin, un, idx, Go.Ev.builtin, calleeOf, V.isNilS, V.depthOk, depth1, V.ok1, V.isAgg, V.cells, isConst, Nat.reduceBEq, Nat.reduceEqDiff, ↓reduceIte, Nat.reduceLeDiff, Nat.reduceAdd, Nat.reduceMul, Nat.reduceSub, Nat.reduceLT, Int.reduceAdd, Int.reduceSub, Int.reduceMul, Int.reduceLT, Int.reduceLE, Int.reduceToNat, Int.reduceNeg, reduceIte, reduceCtorEq, SPx, SWx, h1, h2, h6, h7, r2, hidx, hi0, hi1, hi2, hget, Int.reduceEq, g1, g2, c']
           refine hK _ _ ?_
           clear hK K)
      )
      refine cnd (fun h => ?_) (fun h => ?_)
      · refine gP @Nat.zero_add ?_
        refine rP hd @Tryd.results105 ?_
        try exact True.intro
      · simp at h
    · have c' : ¬ ((q : Nat) : Int) > (((1099511627776 - d) / 60 : Nat) : Int) := by omega
      have hle2 : q * 60 + d ≤ 1099511627776 := by omega
      have g4 : V.int .i64 (wr .i64 (((q * 60 : Nat) : Int) + d)) = vn (N / 60 ^ (j - 1)) := by rw [cast_add, wr_nat (by omega), hst]
      have hm2 : j - 1 < j ∧ 72 ≤ j - 1 ∧ j - 1 ≤ 168 ∧ N / 60 ^ (j - 1) ≤ 1099511627776 := by omega
      clear hst hmono hle
      repeat (first
        | with_reducible first | refine W_seq ?_ | refine W_skip ?_ | refine W_label ?_ | refine W_ret ?_ | refine W_exit ?_ | refine W_block ?_ | refine thenI ?_ | refine thenRet ?_ | refine thenExit ?_ | refine blockRet ?_ | refine blockI ?_ | refine blockExit ?_ | refine blockExitNe rfl ?_
        | (with_reducible refine W_region_k ?_
           intro K hK
           simp (maxSteps := 2000000) (disch := omega) only [SA, ofValue, ofCell, bin, intBin, un, idx, Go.Ev.builtin, calleeOf, V.isNilS, V.depthOk, depth1, V.ok1, V.isAgg, V.cells, isConst, Nat.reduceBEq, Nat.reduceEqDiff, ↓reduceIte, Nat.reduceLeDiff, Nat.reduceAdd, Nat.reduceMul, Nat.reduceSub, Nat.reduceLT, Int.reduceAdd, Int.reduceSub, Int.reduceMul, Int.reduceLT, Int.reduceLE, Int.reduceToNat, Int.reduceNeg, reduceIte, reduceCtorEq, SPx, SWx, h1, h2, h6, h7, r2, hidx, hi0, hi1, hi2, hget, Int.reduceEq, g1, g2, c']
           refine hK _ _ ?_
           clear hK K)
      )
      refine cnd (fun h => ?_) (fun h => ?_)
      · simp at h
      refine gPW (aI @h1 <|aI @h2 <|aI @h6 <|aI @h7 <|aI @r2 <|aI @hidx <|aI @hi0 <|aI @hi1 <|aI @hi2 <|aI @hget <|aI @g3 <|aI @g4 <|@g5) ?_
      refine ⟨j - 1, ⟨hd, ?_, ?_, ?_, ?_, ?_, ?_, hm2.2.1, hm2.2.2.1, hm2.2.2.2⟩, hm2.1⟩
      all_goals (try refine f0 (aI @ho <|aI @h1 <|aI @h2 <|@r2) ?_);all_goals try exact True.intro
  · have hj : j = 72 := by have := of_decide_eq_false h; omega
    subst hj
    clear h
    rw [if_pos hle]
    clear hle
    refine gP @h6 ?_
    refine rP hd @Tryd.results105 ?_
    try exact True.intro
def whS (a : List Int) : Int × Int := if chk a ≠ 0 then (0, chk a) else if numI a ≤ 1099511627776 then ((numI a : Int), 0) else (0, 6)
theorem P43 (a : List Int) : Ans X 43 [.sl (ints a)] (.ret (.tup [vi (whS a).1, vi (whS a).2])) := by
  refine call_of_X (fn := Tryd.f43) 1 Tryd.func43 rfl (by decide +kernel) rfl ?_ ?_ ?_ ?_
  · rfl
  · exact fun _ => rfl
  · intro v hv; injection hv with hv; subst hv; rfl
  intro s hs hd ho
  have hm : s.m = ⟨.nil, []⟩ := by subst hs; rfl
  have h0 : s.t.get 0 = .sl (ints a) := by subst hs; rfl
  clear hs
  refine gP (aI @h0 <|aI @hm <|aI @co28 <|aI @sr28 <|((P28 a).iffx)) ?_
  refine cnd (fun h => ?_) (fun h => ?_)
  · have h : chk a ≠ 0 := by simpa using h
    refine gP @Nat.zero_add ?_
    refine rP hd @Tryd.results43 ?_
    try exact True.intro
    rw [whS, if_pos h]
  have hc : chk a = 0 := by simpa using h
  rw [whS, if_neg (fun e => e hc)]
  obtain ⟨b1, b2, b3, b4, _⟩ := chk_ok hc
  rw [b1] at h0
  have hb := numI_lt hc
  have q1 : Ans X 86 [.sl (nats (natsOf a)), vi 0] (.ret (wv (numI a * 60 ^ 72))) := P86 (natsOf a) 0 72 rfl b2 (by omega)
  have q2 := P105 (numI a * 60 ^ 72) (by
    calc numI a * 60 ^ 72 < 60 ^ 16 * 60 ^ 72 := Nat.mul_lt_mul_of_pos_right hb (by decide)
      _ ≤ 60 ^ 168 := by decide)
  rw [Nat.mul_div_cancel _ (pow_pos 72)] at q2
  clear h hb b1 b2 b3 b4
  by_cases c : numI a ≤ 1099511627776
  · rw [if_pos c] at q2 ⊢
    clear c
    refine gPW (aI @h0 <|aI @co86 <|aI @sr86 <|aI @co105 <|aI @sr105 <|aI @q1.iffx <|@q2.iffx) ?_
    refine cnd (fun h => ?_) (fun h => ?_)
    · simp at h
    refine gP @Nat.zero_add ?_
    refine rP hd @Tryd.results43 ?_
    try exact True.intro
  · rw [if_neg c] at q2 ⊢
    clear c
    refine gPW (aI @h0 <|aI @co86 <|aI @sr86 <|aI @co105 <|aI @sr105 <|aI @q1.iffx <|@q2.iffx) ?_
    refine cnd (fun h => ?_) (fun h => ?_)
    · refine gP @Nat.zero_add ?_
      refine rP hd @Tryd.results43 ?_
      try exact True.intro
    · simp at h
end Go.Proofs.YtpocekfifokndaaDoor
namespace Go.Proofs.YtpocekfifokndaaDoor
open Go Go.Ev Go.Pl
set_option maxRecDepth 100000
set_option maxHeartbeats 4000000
theorem P95 (n : Nat) (hn : n < 9000000000000000000) : Ans X 95 [vn n] (.ret (.sl (nats (canL n)))) := by
  refine call_of_X (fn := Tryd.f95) 1 Tryd.func95 rfl (by decide +kernel) rfl ?_ ?_ ?_ ?_
  · rfl
  · intro h; exact absurd h (by rw [sr95]; decide)
  · intro v hv; injection hv with hv; subst hv; rfl
  intro s hs hd ho
  have hm : s.m = ⟨.nil, []⟩ := by subst hs; rfl
  have h0 : s.t.get 0 = vn n := by subst hs; rfl
  clear hs
  have hlen : (canL n).length ≤ 12 := canL_length_le.2 (by omega)
  refine gP (aI @h0 <|@hm) ?_
  refine W_loopg (fun (x : List Nat × Nat) s => s.dfs = [] ∧ s.m.out.length = 0 ∧ s.t.get 0 = vn x.2 ∧ Held s.m 3 1 (s.t.get 3) x.1 ∧ canL n = x.1 ++ canL x.2) (fun x => x.2) ([], n) ?_ ?_
  · refine ⟨hd, ?_, ?_, ⟨1, 0, ?_, ?_, .inr ⟨rfl, rfl⟩⟩, by simp⟩
    all_goals (try refine f0 (aI @h0 <|@hm) ?_);all_goals try exact True.intro
    · rfl
  clear hd h0 ho hm
  rintro ⟨l, q⟩ s ⟨hd, ho, h0, ⟨g, ty, h3, r3, hty⟩, hc⟩
  dsimp only at h0 h3 r3 hty hc
  have hl : l.length ≤ 12 := by have := congrArg List.length hc; rw [List.length_append] at this; omega
  have hq : q < 9000000000000000000 := by
    have h1 : numL (canL n) = n := num_canL n
    rw [hc, num_append, num_canL] at h1
    have : q ≤ 60 ^ l.length * q := Nat.le_mul_of_pos_left _ (pow_pos _)
    omega
  refine gP (aI @h0 <|aI @h3 <|aI @r3 <|@ho) ?_
  refine cnd (fun h => ?_) (fun h => ?_)
  · have h := of_decide_eq_true h
    have hq2 : q / 60 < 9000000000000000000 := by omega
    refine gPSC (aI @h0 <|aI @h3 <|aI @r3 <|aI @ho <|@hty) ?_
    refine ⟨(l ++ [q % 60], q / 60), ⟨hd, ?_, ?_, ⟨g + 1, 3, ?_, ?_, .inl rfl⟩, ?_⟩, by dsimp only; omega⟩
    all_goals (try refine fS (aI @h0 <|aI @h3 <|@ho) ?_);all_goals try exact True.intro
    · rw [hc, canL_pos (by omega : 0 < q)]; simp
  · have h := of_decide_eq_false h
    obtain rfl : q = 0 := by omega
    rw [canL_zero, List.append_nil] at hc
    subst hc
    refine gP (aI @h3 <|@ho) ?_
    refine rPS hd (aI @Tryd.results95 <|aI (mv_rs r3) <|aI @h3 <|@ho) ?_
    try exact True.intro
end Go.Proofs.YtpocekfifokndaaDoor
namespace Go.Proofs.YtpocekfifokndaaDoor
open Go Go.Ev Go.Pl
set_option maxRecDepth 100000
set_option maxHeartbeats 4000000
theorem P83 (N : Nat) (hN : (canL N).length < 1000) : Ans X 83 [.sl (nats (canL N))] (.ret (.tup [.sl (nats (digB N)), vn (vz N)])) := by
  refine call_of_X (fn := Tryd.f83) 1 Tryd.func83 rfl (by decide +kernel) rfl ?_ ?_ ?_ ?_
  · rfl
  · intro h; exact absurd h (by rw [sr83]; decide)
  · intro v hv; injection hv with hv; subst hv; rfl
  intro s hs hd ho
  have hm : s.m = ⟨.nil, []⟩ := by subst hs; rfl
  have h0 : s.t.get 0 = .sl (nats (canL N)) := by subst hs; rfl
  clear hs
  have hl := canL_len_core N
  repeat (first
    | with_reducible first | refine W_seq ?_ | refine W_skip ?_ | refine W_label ?_ | refine W_ret ?_ | refine W_exit ?_ | refine thenI ?_ | refine thenRet ?_ | refine thenExit ?_ | refine blockRet ?_ | refine blockI ?_ | refine blockExit ?_ | refine blockExitNe rfl ?_
    | (with_reducible refine W_region_k ?_
       intro K hK
       simp (maxSteps := 2000000) (disch := omega) only [SA, ofValue, ofCell, bin, intBin, un, idx, Go.Ev.builtin, calleeOf, V.isNilS, V.depthOk, depth1, V.ok1, V.isAgg, V.cells, isConst, Nat.reduceBEq, Nat.reduceEqDiff, ↓reduceIte, Nat.reduceLeDiff, Nat.reduceAdd, Nat.reduceMul, Nat.reduceSub, Nat.reduceLT, Int.reduceAdd, Int.reduceSub, Int.reduceMul, Int.reduceLT, Int.reduceLE, Int.reduceToNat, Int.reduceNeg, reduceIte, reduceCtorEq, SPx, SSx, appendTo, elemsOf, h0, hm]
       refine hK _ _ ?_
       clear hK K)
  )
  refine W_mid (fun s => s.dfs = [] ∧ s.m.out.length = 0 ∧ s.t.get 0 = .sl (nats (canL N)) ∧ s.t.get 4 = vn (vz N) ∧ s.m.gen 5 1 = 0) ?_ ?_
  · refine gP @Nat.zero_add ?_
    refine W_loopg (fun (k : Nat) s => s.dfs = [] ∧ s.m.out.length = 0 ∧ s.t.get 0 = .sl (nats (canL N)) ∧ s.t.get 4 = vn k ∧ s.m.gen 5 1 = 0 ∧ k ≤ vz N) (fun k => vz N - k) 0 ?_ ?_
    · refine ⟨hd, ?_, ?_, ?_, ?_, Nat.zero_le _⟩
      all_goals (try refine f0 (aI @h0 <|aI @hm <|@filled_nilS) ?_);all_goals try exact True.intro
      · rfl
    clear hd h0 ho hm
    rintro k s ⟨hd, ho, h0, h4, hg, hk⟩
    by_cases hkz : k < vz N
    · have hk2 : (k : Int) < (canL N).length := by omega
      have hg0 : (canL N)[k]? = some 0 := by
        rw [canL_core, List.getElem?_append_left (by rw [List.length_replicate]; exact hkz)]
        simp [hkz]
      refine gPC (aI @nats_length <|aI @nats_get? <|aI @h0 <|aI @h4 <|aI @ho <|aI @hk2 <|aI @hg0 <|@Int.natCast_zero) ?_
      refine cnd (fun h => ?_) (fun h => ?_)
      · refine gPC (aI @h0 <|aI @h4 <|@ho) ?_
        refine ⟨k + 1, ⟨hd, ?_, ?_, ?_, ?_, by omega⟩, by omega⟩
        all_goals (try refine f0 (aI @h0 <|aI @ho <|@hg) ?_);all_goals try exact True.intro
      · simp at h
    obtain rfl : k = vz N := by omega
    by_cases hkl : vz N < (canL N).length
    · have hk2 : ((vz N : Nat) : Int) < (canL N).length := by omega
      have hN0 : 0 < N := by
        rcases Nat.eq_zero_or_pos N with rfl | h'
        · rw [canL_zero] at hkl; simp at hkl
        · exact h'
      have hge : 60 ^ vz N ≤ N := by
        rcases Nat.lt_or_ge N (60 ^ vz N) with h' | h'
        · have := canL_length_le.2 h'; omega
        · exact h'
      have hg0 : (canL N)[vz N]? = some (dig N (vz N)) := by rw [canL_get?, if_pos hge]
      have hne : ¬ (((dig N (vz N) : Nat) : Int) = 0) := by have := vz_dig hN0; omega
      refine gPC (aI @nats_length <|aI @nats_get? <|aI @h0 <|aI @h4 <|aI @ho <|aI @hk2 <|aI @hg0 <|(beq_eq_false_iff_ne.2 hne)) ?_
      refine cnd (fun h => ?_) (fun h => ?_)
      · simp at h
      · refine gP @Nat.zero_add ?_
        refine ⟨hd, ?_, ?_, ?_, ?_⟩
        all_goals (try refine f0 (aI @h0 <|aI @h4 <|aI @ho <|@hg) ?_);all_goals try exact True.intro
    · have hk2 : ¬ (((vz N : Nat) : Int) < (canL N).length) := by omega
      refine gPC (aI @nats_length <|aI @nats_get? <|aI @h0 <|aI @h4 <|aI @ho <|@hk2) ?_
      refine cnd (fun h => ?_) (fun h => ?_)
      · simp at h
      · refine gP @Nat.zero_add ?_
        refine ⟨hd, ?_, ?_, ?_, ?_⟩
        all_goals (try refine f0 (aI @h0 <|aI @h4 <|aI @ho <|@hg) ?_);all_goals try exact True.intro
  clear hd h0 ho hm
  rintro s ⟨hd, ho, h0, h4, hg⟩
  refine gPS (aI @h0 <|aI @h4 <|aI @ho <|aI @hg <|@wr_i64) ?_
  refine W_loopg (fun (k : Nat) s => s.dfs = [] ∧ s.m.out.length = 0 ∧ s.t.get 0 = .sl (nats (canL N)) ∧ s.t.get 4 = vn (vz N) ∧ s.t.get 6 = vi ((canL N).length - 1 - k) ∧ Held s.m 5 1 (s.t.get 5) ((digB N).take k) ∧ k ≤ (digB N).length) (fun k => (digB N).length - k) 0 ?_ ?_
  · refine ⟨hd, ?_, ?_, ?_, ?_, ⟨1, 0, ?_, ?_, .inr ⟨rfl, rfl⟩⟩, Nat.zero_le _⟩
    all_goals (try refine f0 (aI @h0 <|aI @h4 <|aI @ho <|@hg) ?_);all_goals try exact True.intro
    · simp
    · simp
    · simp [nats]
  clear hd h0 ho hg h4
  rintro k s ⟨hd, ho, h0, h4, h6, ⟨g, ty, h5, r5, hty⟩, hk⟩
  have hlen : ((digB N).take k).length = k := by rw [List.length_take]; omega
  rw [hlen] at h5 hty
  refine gP (aI @h0 <|aI @h4 <|aI @h5 <|aI @h6 <|aI @r5 <|@ho) ?_
  refine cnd (fun h => ?_) (fun h => ?_)
  · have h := of_decide_eq_true h
    have hk : k < (digB N).length := by omega
    have hdk := digB_get N hk
    have hcg : (canL N)[(canL N).length - 1 - k]? = some (dig N ((canL N).length - 1 - k)) := by
      rw [canL_get?, if_pos]
      rcases Nat.lt_or_ge N (60 ^ ((canL N).length - 1 - k)) with h' | h'
      · have := canL_length_le.2 h'; omega
      · exact h'
    have hc : ((canL N).length - 1 - (k : Int)).toNat = (canL N).length - 1 - k := by omega
    have hc0 : (0 : Int) ≤ ((canL N).length : Int) - 1 - k := by omega
    have hnat : nats ((digB N).take k) ++ [vn (dig N ((canL N).length - 1 - k))] = nats ((digB N).take (k + 1)) := by
      rw [nats_snoc, List.take_add_one, hdk]; rfl
    have hcut : cut (nats ((digB N).take k)) 0 k = nats ((digB N).take k) := by
      conv => lhs; arg 3; rw [← hlen]
      exact cut_nats _
    refine gPS (aI @cut_one <|aI @hcut <|aI @hnat <|aI @h0 <|aI @h4 <|aI @h5 <|aI @h6 <|aI @r5 <|aI @ho <|aI @hty <|aI @hlen <|aI @nats_get? <|aI @hcg <|aI @hc <|aI @hc0 <|@wr_i64) ?_
    refine ⟨k + 1, ⟨hd, ?_, ?_, ?_, ?_, ⟨g + 1, 3, ?_, ?_, .inl rfl⟩, by omega⟩, by omega⟩
    all_goals (try refine fS (aI @h0 <|aI @h4 <|aI @h5 <|@ho) ?_);all_goals try exact True.intro
    · congr 1; omega
    · rw [List.length_take, Nat.min_eq_left (by omega)]
  · have h := of_decide_eq_false h
    obtain rfl : k = (digB N).length := by omega
    rw [List.take_length] at r5
    refine gP (aI @h4 <|aI @h5 <|@ho) ?_
    refine rPS hd (aI @Tryd.results83 <|aI @mv_rsr <|aI @mv2_rsr <|aI @r5 <|aI @h4 <|aI @h5 <|@ho) ?_
    try exact True.intro
end Go.Proofs.YtpocekfifokndaaDoor
namespace Go.Proofs.YtpocekfifokndaaDoor
open Go Go.Ev Go.Pl
set_option maxRecDepth 100000
set_option maxHeartbeats 4000000
theorem P37 (n : Int) : Ans X 37 [vi n] (.ret (.tup [.sl (nats (ofS n).1), vi (ofS n).2])) := by
  refine call_of_X (fn := Tryd.f37) 1 Tryd.func37 rfl (by decide +kernel) rfl ?_ ?_ ?_ ?_
  · rfl
  · intro h; exact absurd h (by rw [sr37]; decide)
  · intro v hv; injection hv with hv; subst hv; rfl
  intro s hs hd ho
  have hm : s.m = ⟨.nil, []⟩ := by subst hs; rfl
  have h0 : s.t.get 0 = vi n := by subst hs; rfl
  clear hs
  by_cases c1 : n < 0
  · refine gP (aI @h0 <|aI @hm <|@c1) ?_
    refine cnd (fun h => ?_) (fun h => ?_)
    · refine gP @hm ?_
      refine rPAS hd (aI @Tryd.results37 <|@hm) ?_
      try exact True.intro
      rw [ofS, if_pos (.inl c1)]; rfl
    · simp at h
  by_cases c2 : n > 1099511627776
  · refine gP (aI @h0 <|aI @hm <|aI @c1 <|@c2) ?_
    refine cnd (fun h => ?_) (fun h => ?_)
    · refine gP @hm ?_
      refine rPAS hd (aI @Tryd.results37 <|@hm) ?_
      try exact True.intro
      rw [ofS, if_pos (.inr c2)]; rfl
    · simp at h
  obtain ⟨k, rfl⟩ : ∃ k : Nat, n = k := ⟨n.toNat, by omega⟩
  have q1 := P95 k (by omega)
  have q2 := P83 k (Nat.lt_of_le_of_lt (canL_length_le.2 (show k < 60 ^ 16 by omega)) (by decide))
  rw [ofS, if_neg (by omega), Int.toNat_natCast]
  refine gP (aI @h0 <|aI @hm <|aI @c1 <|@c2) ?_
  refine cnd (fun h => ?_) (fun h => ?_)
  · simp at h
  refine gP (aI @h0 <|aI @hm <|aI @co95 <|aI @sr95 <|aI @co83 <|aI @sr83 <|aI @q1.iffx <|@q2.iffx) ?_
  refine rP hd @Tryd.results37 ?_
  try exact True.intro
end Go.Proofs.YtpocekfifokndaaDoor
namespace Go.Proofs.YtpocekfifokndaaDoor
open Go Go.Ev Go.Pl
set_option maxRecDepth 100000
set_option maxHeartbeats 4000000
theorem parseL_len (n : Nat) : ∀ (ps : List (List UInt8)) (i at' : Nat) (acc : List Nat), (parseL n i at' acc ps).1.length ≤ acc.length + ps.length
  | [], i, at', acc => by rw [parseL]; exact Nat.le_refl _
  | p :: ps, i, at', acc => by
    have ih := parseL_len n ps (i + 1) (at' + (p.length + 1)) (acc ++ [(partS p).1])
    rw [parseL]
    split
    · exact Nat.zero_le _
    · split
      · exact Nat.zero_le _
      · split
        · exact Nat.zero_le _
        · split
          · exact Nat.zero_le _
          · simp only [List.length_append, List.length_cons, List.length_nil] at ih ⊢
            omega
theorem P7 (s : List UInt8) (n : Int) (hlen : s.length < 4294967281) : Ans X 7 [.str s, vi n] (.ret (.bool true)) := by
  refine call_of_X (fn := Tryd.f7) 2 Tryd.func7 rfl (by decide +kernel) rfl ?_ ?_ ?_ ?_
  · rfl
  · exact fun _ => rfl
  · intro v hv; injection hv with hv; subst hv; rfl
  intro st hs hd ho
  have h0 : st.t.get 0 = .str s := by subst hs; rfl
  have h1 : st.t.get 1 = vi n := by subst hs; rfl
  clear hs
  have hl : (parseS s).1.length < 1000000000000 := by
    rw [parseS]
    split
    · exact Nat.zero_lt_succ _
    · have h2 := parseL_len (splitB 58 s).length (splitB 58 s) 0 0 []
      have h3 := splitB_count 58 s
      rw [List.length_nil] at h2
      omega
  have hl2 : (ofS n).1.length < 1000000000000 := by
    rw [ofS]
    split
    · exact Nat.zero_lt_succ _
    · have h2 := digB_len (N := n.toNat) (n := 16) (by omega)
      dsimp only
      omega
  have q1 := P34 s hlen
  have q2 := P35 s hlen
  have q3 := P36 n
  have q4 := P37 n
  have q5 := Q25 _ hl
  have q6 := Q25 _ hl2
  clear hl hl2 hlen
  generalize parseS s = r at *
  generalize ofS n = r' at *
  obtain ⟨l, a, e⟩ := r
  obtain ⟨l', e'⟩ := r'
  dsimp only at q1 q2 q3 q4 q5 q6
  refine gP (aI @h0 <|aI @h1 <|aI @co34 <|aI @sr34 <|aI @co35 <|aI @sr35 <|aI @co36 <|aI @sr36 <|aI @co37 <|aI @sr37 <|aI @co25 <|aI @sr25 <|aI @co26 <|aI @sr26 <|aI @q1.iffx <|aI @q2.iffx <|aI @q3.iffx <|aI @q4.iffx <|aI @q5.iffx <|aI @q6.iffx <|@P26.iffx) ?_
  refine rP hd @Tryd.results7 ?_
  try exact True.intro
end Go.Proofs.YtpocekfifokndaaDoor
