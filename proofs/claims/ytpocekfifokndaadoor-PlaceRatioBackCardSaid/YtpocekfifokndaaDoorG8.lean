/- Part 8 of the proof: an evaluator of the program, proved sound against the model, and what the functions of the program compute. No condition but those each theorem states. -/
import Derived.Test.YtpocekfifokndaaDoorG2
import Derived.Test.YtpocekfifokndaaDoorG6
import Derived.Test.YtpocekfifokndaaDoorG7
import Derived.Test.YtpocekfifokndaaDoorG3
import Derived.Test.YtpocekfifokndaaDoorG5
import Derived.ChangeSame
set_option linter.unusedSimpArgs false
set_option linter.unusedVariables false
namespace Go.Proofs.YtpocekfifokndaaDoor
open Go Go.Ev Go.Pl
set_option maxRecDepth 100000
set_option maxHeartbeats 4000000
theorem and32 (x : Nat) (hx : x < 18446744073709551616) : V.int .u64 (wr .u64 (((BitVec.ofInt IntKind.u64.bits (x : Int) &&& BitVec.ofInt IntKind.u64.bits 4294967295).toNat : Nat) : Int)) = vu (x % 4294967296) := by
  have e : (BitVec.ofInt IntKind.u64.bits (x : Int) &&& BitVec.ofInt IntKind.u64.bits 4294967295).toNat = x % 4294967296 := by
    show (BitVec.ofInt 64 (x : Int) &&& BitVec.ofInt 64 4294967295).toNat = x % 4294967296
    rw [BitVec.toNat_and]
    have e1 : (BitVec.ofInt 64 (x : Int)).toNat = x := by
      rw [BitVec.ofInt_natCast, BitVec.toNat_ofNat, Nat.mod_eq_of_lt hx]
    have e2 : (BitVec.ofInt 64 4294967295).toNat = 2 ^ 32 - 1 := by decide
    rw [e1, e2, Nat.and_two_pow_sub_one_eq_mod]
  rw [e, wr_u64 (by omega)]
theorem shr32 (x : Nat) : shiftBin .shr .u64 (x : Int) 32 = some (vu (x / 4294967296)) := by
  have e : ((2 : Int) ^ min (32 : Int).toNat IntKind.u64.bits) = ((4294967296 : Nat) : Int) := by decide
  unfold shiftBin
  rw [if_neg (by decide)]
  show some (V.int .u64 (Int.fdiv (x : Int) (2 ^ min (32 : Int).toNat IntKind.u64.bits))) = _
  rw [e, Int.fdiv_eq_ediv_of_nonneg _ (by decide)]
  rfl
theorem P164 (x y : Nat) (hx : x < 18446744073709551616) (hy : y < 18446744073709551616) : Ans X 164 [vu x, vu y] (.ret (.tup [vu (x * y / 18446744073709551616), vu (x * y % 18446744073709551616)])) := by
  refine call_of_X (fn := Tryd.f164) 2 Tryd.func164 rfl (by decide +kernel) rfl ?_ ?_ ?_ ?_
  · rfl
  · exact fun _ => rfl
  · intro v hv; injection hv with hv; subst hv; rfl
  intro s hs hd ho
  have h0 : s.t.get 0 = vu x := by subst hs; rfl
  have h1 : s.t.get 1 = vu y := by subst hs; rfl
  clear hs
  have a1 := and32 x hx
  have a2 := and32 y hy
  have s1 := shr32 x
  have s2 := shr32 y
  have hxe : x = x / 4294967296 * 4294967296 + x % 4294967296 := by omega
  have hye : y = y / 4294967296 * 4294967296 + y % 4294967296 := by omega
  obtain ⟨x1, hx1⟩ : ∃ n, n = x / 4294967296 := ⟨_, rfl⟩
  obtain ⟨x0, hx0⟩ : ∃ n, n = x % 4294967296 := ⟨_, rfl⟩
  obtain ⟨y1, hy1⟩ : ∃ n, n = y / 4294967296 := ⟨_, rfl⟩
  obtain ⟨y0, hy0⟩ : ∃ n, n = y % 4294967296 := ⟨_, rfl⟩
  rw [← hx1, ← hx0] at hxe
  rw [← hy1, ← hy0] at hye
  rw [← hx0] at a1
  rw [← hy0] at a2
  simp only [← hx1] at s1
  simp only [← hy1] at s2
  have bx1 : x1 ≤ 4294967295 := by omega
  have bx0 : x0 ≤ 4294967295 := by omega
  have by1 : y1 ≤ 4294967295 := by omega
  have by0 : y0 ≤ 4294967295 := by omega
  have b00 := Nat.mul_le_mul bx0 by0
  have b10 := Nat.mul_le_mul bx1 by0
  have b01 := Nat.mul_le_mul bx0 by1
  have b11 := Nat.mul_le_mul bx1 by1
  have hxy : x * y = x1 * y1 * 18446744073709551616 + (x1 * y0 + x0 * y1) * 4294967296 + x0 * y0 := by rw [hxe, hye]; grind
  have m00 : V.int .u64 (wr .u64 ((x0 : Int) * (y0 : Int))) = vu (x0 * y0) := by rw [← Int.natCast_mul, wr_u64 (by omega)]
  have m10 : V.int .u64 (wr .u64 ((x1 : Int) * (y0 : Int))) = vu (x1 * y0) := by rw [← Int.natCast_mul, wr_u64 (by omega)]
  have m01 : V.int .u64 (wr .u64 ((x0 : Int) * (y1 : Int))) = vu (x0 * y1) := by rw [← Int.natCast_mul, wr_u64 (by omega)]
  have m11 : V.int .u64 (wr .u64 ((x1 : Int) * (y1 : Int))) = vu (x1 * y1) := by rw [← Int.natCast_mul, wr_u64 (by omega)]
  have mxy : V.int .u64 (wr .u64 ((x : Int) * (y : Int))) = vu (x * y % 18446744073709551616) := by
    rw [← Int.natCast_mul]
    simp only [wr, IntKind.wrap]
    have e : IntKind.u64.signed = false := by decide
    have e2 : IntKind.u64.bits = 64 := by decide
    rw [e, e2, Bool.false_and, if_neg (by decide)]
    rfl
  generalize x * y = p at hxy mxy ⊢
  generalize x0 * y0 = p00 at *
  generalize x1 * y0 = p10 at *
  generalize x0 * y1 = p01 at *
  generalize x1 * y1 = p11 at *
  have t1 : V.int .u64 (wr .u64 ((p10 : Int) + ((p00 / 4294967296 : Nat) : Int))) = vu (p10 + p00 / 4294967296) := by rw [← Int.natCast_add, wr_u64 (by omega)]
  have bt : p10 + p00 / 4294967296 < 18446744073709551616 := by omega
  have s00 := shr32 p00
  have hs : p / 18446744073709551616 = p11 + (p10 + p00 / 4294967296) / 4294967296 + ((p10 + p00 / 4294967296) % 4294967296 + p01) / 4294967296 := by omega
  generalize p10 + p00 / 4294967296 = t at *
  have at1 := and32 t bt
  have st1 := shr32 t
  have w1 : V.int .u64 (wr .u64 (((t % 4294967296 : Nat) : Int) + (p01 : Int))) = vu (t % 4294967296 + p01) := by rw [← Int.natCast_add, wr_u64 (by omega)]
  have q1 : V.int .u64 (wr .u64 ((p11 : Int) + ((t / 4294967296 : Nat) : Int))) = vu (p11 + t / 4294967296) := by rw [← Int.natCast_add, wr_u64 (by omega)]
  have sw := shr32 (t % 4294967296 + p01)
  have q2 : V.int .u64 (wr .u64 (((p11 + t / 4294967296 : Nat) : Int) + (((t % 4294967296 + p01) / 4294967296 : Nat) : Int))) = vu (p / 18446744073709551616) := by rw [← Int.natCast_add, hs, wr_u64 (by omega)]
  clear hs bt hxy b00 b10 b01 b11 bx1 bx0 by1 by0 hxe hye hx1 hx0 hy1 hy0 hx hy
  refine gP (aI @h0 <|aI @h1 <|aI @a1 <|aI @a2 <|aI @s1 <|aI @s2 <|aI @m00 <|aI @m10 <|aI @m01 <|aI @m11 <|aI @mxy <|aI @t1 <|aI @s00 <|aI @at1 <|aI @st1 <|aI @w1 <|aI @q1 <|aI @sw <|@q2) ?_
  refine rP hd @Tryd.results164 ?_
  try exact True.intro
end Go.Proofs.YtpocekfifokndaaDoor
namespace Go.Proofs.YtpocekfifokndaaDoor
open Go Go.Ev Go.Pl
set_option maxRecDepth 100000
set_option maxHeartbeats 4000000
theorem sr163 : scalarRes Tryd.prog 163 = false := by kernel_rfl
theorem co163 : callOk Tryd.prog 163 = true := by kernel_rfl
theorem sr164 : scalarRes Tryd.prog 164 = true := by kernel_rfl
theorem co164 : callOk Tryd.prog 164 = true := by kernel_rfl
theorem sr155 : scalarRes Tryd.prog 155 = true := by kernel_rfl
theorem co155 : callOk Tryd.prog 155 = true := by kernel_rfl
theorem sr154 : scalarRes Tryd.prog 154 = false := by kernel_rfl
theorem co154 : callOk Tryd.prog 154 = true := by kernel_rfl
def usV (l : List Nat) : List V := l.map fun n => vu n
theorem usV_length (l : List Nat) : (usV l).length = l.length := by simp [usV]
theorem usV_get {l : List Nat} {i n : Nat} (h : l[i]? = some n) : (usV l)[i]? = some (vu n) := by rw [usV, List.getElem?_map, h]; rfl
theorem usV_snoc (l : List Nat) (n : Nat) : usV l ++ [vu n] = usV (l ++ [n]) := by simp [usV]
theorem cut_us (l : List Nat) : cut (usV l) 0 l.length = usV l := by unfold cut; rw [List.drop_zero, List.take_of_length_le (by rw [usV_length]; exact Nat.le_refl _)]
def trimF (l : List Nat) : List Nat := l.filter fun n => n != 1
theorem P163 (l : List Nat) (hl : l.length < 1000000) : Ans X 163 [.sl (usV l)] (.ret (.sl (usV (trimF l)))) := by
  refine call_of_X (fn := Tryd.f163) 1 Tryd.func163 rfl (by decide +kernel) rfl ?_ ?_ ?_ ?_
  · rfl
  · intro h; exact absurd h (by rw [sr163]; decide)
  · intro v hv; injection hv with hv; subst hv; rfl
  intro s hs hd ho
  have hm : s.m = ⟨.nil, []⟩ := by subst hs; rfl
  have h0 : s.t.get 0 = .sl (usV l) := by subst hs; rfl
  clear hs
  refine gPS (aI @h0 <|aI @hm <|@usV_length) ?_
  refine W_loopg (fun (k : Nat) s => s.dfs = [] ∧ s.m.out.length = 0 ∧ s.t.get 6 = .sl (usV l) ∧ s.t.get 7 = vn l.length ∧ s.t.get 8 = vn k ∧ HeldD s.m 0 3 1 154 (s.t.get 3) (usV (trimF (l.take k))) ∧ k ≤ l.length) (fun k => l.length - k) 0 ?_ ?_
  · refine ⟨hd, ?_, ?_, ?_, ?_, ⟨1, 0, ?_, ?_, .inr ⟨rfl, rfl⟩⟩, Nat.zero_le _⟩
    all_goals (try refine fS (aI @h0 <|@hm) ?_);all_goals try exact True.intro
    all_goals rfl
  clear hd h0 hm ho
  rintro k s ⟨hd, ho, h6, h7, h8, ⟨g, ty, h3, r3, hty⟩, hk⟩
  rw [usV_length] at h3 hty
  have hlk : (trimF (l.take k)).length ≤ k := by
    have h1 := List.length_filter_le (fun n => n != 1) (l.take k)
    have h2 := List.length_take_le k l
    exact Nat.le_trans h1 h2
  refine gP (aI @h7 <|@h8) ?_
  refine cnd (fun h => ?_) (fun h => ?_)
  · have hk' : k < l.length := by have := of_decide_eq_true h; omega
    clear h
    obtain ⟨x, hx⟩ : ∃ x, l[k]? = some x := ⟨l[k], by simp⟩
    have gx := usV_get hx
    have ht : trimF (l.take (k + 1)) = if x = 1 then trimF (l.take k) else trimF (l.take k) ++ [x] := by
      rw [List.take_add_one, hx, trimF, List.filter_append]
      by_cases c : x = 1
      · subst c; rw [if_pos rfl]; simp [trimF]
      · rw [if_neg c]
        have : (x != 1) = true := by simpa using c
        simp [trimF, c]
    have i1 : (k : Int) < (l.length : Int) := by omega
    have i2 : (0 : Int) ≤ (k : Int) := by omega
    have e1 : V.int .i64 (wr .i64 ((k : Int) + 1)) = vn (k + 1) := by rw [wr_i64 (by omega) (by omega)]; rfl
    generalize trimF (l.take k) = T at *
    have hT : T.length < 1000000 := by omega
    clear hx hlk
    by_cases c : x = 1
    · have e2 : (((x : Nat) : Int) != 1) = false := by rw [c]; rfl
      rw [if_pos c] at ht
      refine gPAS (aI @h6 <|aI @h8 <|aI @gx <|aI @i1 <|aI @i2 <|aI @hk' <|aI @usV_length <|@e2) ?_
      refine cnd (fun h => ?_) (fun h => ?_)
      · simp at h
      · refine gP (aI @h8 <|@e1) ?_
        refine ⟨k + 1, ⟨hd, ?_, ?_, ?_, ?_, ⟨g, ty, ?_, ?_, ?_⟩, hk'⟩, by omega⟩
        all_goals (try refine f0 (aI @h3 <|aI @h6 <|aI @h7 <|aI @r3 <|aI @ho <|aI @ht <|@usV_length) ?_);all_goals try exact True.intro
        exact hty
    · have e2 : (((x : Nat) : Int) != 1) = true := by rw [bne_iff_ne]; omega
      rw [if_neg c] at ht
      refine gPAS (aI @h6 <|aI @h8 <|aI @gx <|aI @i1 <|aI @i2 <|aI @hk' <|aI @usV_length <|@e2) ?_
      refine cnd (fun h => ?_) (fun h => ?_)
      · refine gPAS (aI @h3 <|aI @h6 <|aI @h8 <|aI @r3 <|aI @ho <|aI @hty <|aI @usV_length <|aI @cut_us <|aI @usV_snoc <|@e1) ?_
        refine ⟨k + 1, ⟨hd, ?_, ?_, ?_, ?_, ⟨g + 1, 154, ?_, ?_, .inl rfl⟩, hk'⟩, by omega⟩
        all_goals (try refine fS (aI @h3 <|aI @h6 <|aI @h7 <|aI @r3 <|aI @ho <|aI @ht <|@usV_length) ?_);all_goals try exact True.intro
      · simp at h
  · have hk' : k = l.length := by have := of_decide_eq_false h; omega
    subst hk'
    rw [List.take_length] at h3 r3 hty
    clear h hlk
    generalize trimF l = T at *
    refine gPS (aI @h3 <|aI @r3 <|@ho) ?_
    refine rPAS hd (aI @Tryd.results163 <|aI @h3 <|aI @r3 <|aI @ho <|aI @usV_length <|@cut_us) ?_
    try exact True.intro
def prodF (l : List Nat) : Nat := l.foldl (· * ·) 1
def withF (l : List Nat) (most : Nat) : Nat × Bool := if prodF l ≤ most then (prodF l, true) else (0, false)
theorem prodF_snoc (l : List Nat) (x : Nat) : prodF (l ++ [x]) = prodF l * x := by simp [prodF]
theorem prodF_le : ∀ (m l : List Nat), (∀ x ∈ m, 1 ≤ x) → prodF l ≤ prodF (l ++ m)
  | [], l, _ => by simp
  | x :: m, l, h => by
    have h1 := prodF_le m (l ++ [x]) fun y hy => h y (List.mem_cons_of_mem _ hy)
    rw [prodF_snoc, List.append_assoc] at h1
    exact Nat.le_trans (Nat.le_mul_of_pos_right _ (h x (by simp))) h1
theorem P155 (l : List Nat) (most : Nat) (hl : l.length < 1000000) (h1 : ∀ x ∈ l, 1 ≤ x ∧ x < 18446744073709551616) (hm : 1 ≤ most) (hM : most < 18446744073709551616) :
    Ans X 155 [.sl (usV l), vu most] (.ret (.tup [vu (withF l most).1, .bool (withF l most).2])) := by
  refine call_of_X (fn := Tryd.f155) 2 Tryd.func155 rfl (by decide +kernel) rfl ?_ ?_ ?_ ?_
  · rfl
  · exact fun _ => rfl
  · intro v hv; injection hv with hv; subst hv; rfl
  intro s hs hd ho
  have h0 : s.t.get 0 = .sl (usV l) := by subst hs; rfl
  have h1' : s.t.get 1 = vu most := by subst hs; rfl
  clear hs
  refine gPS (aI @h0 <|@usV_length) ?_
  refine W_loopg (fun (k : Nat) s => s.dfs = [] ∧ s.m.out.length = 0 ∧ s.t.get 1 = vu most ∧ s.t.get 6 = vu (prodF (l.take k)) ∧ s.t.get 11 = .sl (usV l) ∧ s.t.get 12 = vn l.length ∧ s.t.get 13 = vn k ∧ k ≤ l.length ∧ prodF (l.take k) ≤ most) (fun k => l.length - k) 0 ?_ ?_
  · refine ⟨hd, ?_, ?_, ?_, ?_, ?_, ?_, Nat.zero_le _, hm⟩
    all_goals (try refine f0 (aI @h0 <|aI @h1' <|@ho) ?_);all_goals try exact True.intro
    all_goals rfl
  clear hd h0 h1' ho
  rintro k s ⟨hd, ho, h1', h6, h11, h12, h13, hk, hp⟩
  refine gP (aI @h12 <|@h13) ?_
  refine cnd (fun h => ?_) (fun h => ?_)
  · have hk' : k < l.length := by have := of_decide_eq_true h; omega
    clear h
    obtain ⟨x, hx⟩ : ∃ x, l[k]? = some x := ⟨l[k], by simp⟩
    have hx1 := h1 x (List.mem_of_getElem? hx)
    have gx := usV_get hx
    have ht : prodF (l.take (k + 1)) = prodF (l.take k) * x := by rw [List.take_add_one, hx]; exact prodF_snoc _ _
    have hle : prodF (l.take (k + 1)) ≤ prodF l := by
      have := prodF_le (l.drop (k + 1)) (l.take (k + 1)) (fun y hy => (h1 y (List.mem_of_mem_drop hy)).1)
      rwa [List.take_append_drop] at this
    have i1 : (k : Int) < (l.length : Int) := by omega
    have i2 : (0 : Int) ≤ (k : Int) := by omega
    have e1 : V.int .i64 (wr .i64 ((k : Int) + 1)) = vn (k + 1) := by rw [wr_i64 (by omega) (by omega)]; rfl
    generalize prodF (l.take k) = p at *
    have q := P164 p x (by omega) hx1.2
    rw [← ht] at q
    generalize hr : prodF (l.take (k + 1)) = r at *
    by_cases c : r ≤ most
    · have z : r / 18446744073709551616 = 0 := Nat.div_eq_of_lt (by omega)
      have z2 : r % 18446744073709551616 = r := Nat.mod_eq_of_lt (by omega)
      rw [z, z2] at q
      have c' : ¬ ((r : Nat) : Int) > ((most : Nat) : Int) := by omega
      have hn0 : (((0 : Nat) : Int) != 0) = false := rfl
      clear ht hle hx z z2
      refine gPAS (aI @h1' <|aI @h6 <|aI @h11 <|aI @h13 <|aI @ho <|aI @gx <|aI @i1 <|aI @i2 <|aI @hk' <|aI @usV_length <|aI @co164 <|aI @sr164 <|aI @q.iffx <|aI @hn0 <|@c') ?_
      refine cnd (fun h => ?_) (fun h => ?_)
      · simp at h
      refine gP (aI @h13 <|@e1) ?_
      refine ⟨k + 1, ⟨hd, ?_, ?_, ?_, ?_, ?_, ?_, hk', by rw [hr]; exact c⟩, by omega⟩
      all_goals (try refine f0 (aI @h1' <|aI @h11 <|aI @h12 <|aI @ho <|@hr) ?_);all_goals try exact True.intro
    · rw [withF, if_neg (by omega)]
      by_cases c0 : r / 18446744073709551616 = 0
      · have z2 : r % 18446744073709551616 = r := Nat.mod_eq_of_lt (by omega)
        rw [c0, z2] at q
        have c' : ((r : Nat) : Int) > ((most : Nat) : Int) := by omega
        have hn0 : (((0 : Nat) : Int) != 0) = false := rfl
        clear ht hle hx c0 z2
        refine gPAS (aI @h1' <|aI @h6 <|aI @h11 <|aI @h13 <|aI @ho <|aI @gx <|aI @i1 <|aI @i2 <|aI @hk' <|aI @usV_length <|aI @co164 <|aI @sr164 <|aI @q.iffx <|aI @hn0 <|@c') ?_
        refine cnd (fun h => ?_) (fun h => ?_)
        · refine gP @Nat.zero_add ?_
          refine rP hd @Tryd.results155 ?_
          try exact True.intro
          rfl
        · simp at h
      · have hn0 : (((r / 18446744073709551616 : Nat) : Int) != 0) = true := by rw [bne_iff_ne]; omega
        clear ht hle hx c0
        refine gPAS (aI @h1' <|aI @h6 <|aI @h11 <|aI @h13 <|aI @ho <|aI @gx <|aI @i1 <|aI @i2 <|aI @hk' <|aI @usV_length <|aI @co164 <|aI @sr164 <|aI @q.iffx <|@hn0) ?_
        refine cnd (fun h => ?_) (fun h => ?_)
        · refine gP @Nat.zero_add ?_
          refine rP hd @Tryd.results155 ?_
          try exact True.intro
          rfl
        · simp at h
  · have hk' : k = l.length := by have := of_decide_eq_false h; omega
    subst hk'
    rw [List.take_length] at h6 hp
    rw [withF, if_pos hp]
    refine gPS @h6 ?_
    refine rPAS hd (aI @Tryd.results155 <|@h6) ?_
    try exact True.intro
end Go.Proofs.YtpocekfifokndaaDoor
namespace Go.Proofs.YtpocekfifokndaaDoor
open Go Go.Ev Go.Pl
set_option maxRecDepth 100000
set_option maxHeartbeats 4000000
def stepR (i j : Nat) (w : List Nat × List Nat) : List Nat × List Nat :=
  (w.1.set i (w.1.getD i 0 / Nat.gcd (w.1.getD i 0) (w.2.getD j 0)), w.2.set j (w.2.getD j 0 / Nat.gcd (w.1.getD i 0) (w.2.getD j 0)))
def redJ (i n : Nat) (w : List Nat × List Nat) : List Nat × List Nat := (List.range n).foldl (fun w j => stepR i j w) w
def redI (m n : Nat) (w : List Nat × List Nat) : List Nat × List Nat := (List.range m).foldl (fun w i => redJ i n w) w
theorem redJ_succ (i n : Nat) (w) : redJ i (n + 1) w = stepR i n (redJ i n w) := by simp [redJ, List.range_succ]
theorem redI_succ (m n : Nat) (w) : redI (m + 1) n w = redJ m n (redI m n w) := by simp [redI, List.range_succ]
def okF (l : List Nat) : Prop := ∀ x ∈ l, 1 ≤ x ∧ x < 4611686018427387905
theorem okF_set {l : List Nat} (h : okF l) {i x : Nat} (hx : 1 ≤ x ∧ x < 4611686018427387905) : okF (l.set i x) := fun y hy => by
  rcases List.mem_or_eq_of_mem_set hy with h' | h'
  · exact h y h'
  · subst h'; exact hx
theorem usV_set (l : List Nat) (i n : Nat) : (usV l).set i (vu n) = usV (l.set i n) := by simp [usV, List.map_set]
theorem usV_width (l : List Nat) : (usV l).all (fun v => decide (v.width = 1)) = true := by
  rw [List.all_eq_true]; intro v hv; obtain ⟨n, _, rfl⟩ := List.mem_map.1 hv; rfl
theorem P154 (u d : List Nat) (hu : okF u) (hd' : okF d) (hu0 : 0 < u.length) (hd0 : 0 < d.length) (hul : u.length < 1000) (hdl : d.length < 1000) :
    Ans X 154 [.agg [.sl (usV u), .sl (usV d)]] (.ret (.agg [.sl (usV (trimF (redI u.length d.length (u, d)).1)), .sl (usV (trimF (redI u.length d.length (u, d)).2))])) := by
  refine call_of_X (fn := Tryd.f154) 1 Tryd.func154 rfl (by decide +kernel) rfl ?_ ?_ ?_ ?_
  · rfl
  · intro h; exact absurd h (by rw [sr154]; decide)
  · intro v hv; injection hv with hv; subst hv; rfl
  intro s hs hd ho
  have hm : s.m = ⟨.nil, []⟩ := by subst hs; rfl
  have h0 : s.t.get 0 = .agg [.sl (usV u), .sl (usV d)] := by subst hs; rfl
  clear hs
  refine gPAS (aI @h0 <|aI @hm <|aI @usV_length <|aI @cut_us <|@usV_width) ?_
  refine W_loopg (fun (x : Nat × List Nat × List Nat) s => s.dfs = [] ∧ s.m.out.length = 0 ∧ s.t.get 2 = .ptr ⟨0, 2, 0, 1⟩ 0 0 ∧ s.t.get 3 = .rs ⟨0, 10, 0, 1⟩ 154 0 u.length ∧ s.t.get 4 = .rs ⟨0, 13, 0, 1⟩ 154 0 d.length ∧ s.t.get 15 = vn u.length ∧ s.t.get 16 = vn x.1 ∧
    s.m.row ⟨0, 2, 0, 1⟩ = some ⟨1, 159, false, false, [.agg [.rs ⟨0, 2, 1, 1⟩ 0 0 0, .rs ⟨0, 2, 2, 1⟩ 0 0 0]]⟩ ∧ s.m.row ⟨0, 10, 0, 1⟩ = some ⟨1, 154, true, false, usV x.2.1⟩ ∧ s.m.row ⟨0, 13, 0, 1⟩ = some ⟨1, 154, true, false, usV x.2.2⟩ ∧
    x.1 ≤ u.length ∧ x.2.1.length = u.length ∧ x.2.2.length = d.length ∧ okF x.2.1 ∧ okF x.2.2 ∧ x.2 = redI x.1 d.length (u, d)) (fun x => u.length - x.1) (0, u, d) ?_ ?_
  · refine ⟨hd, ?_, ?_, ?_, ?_, ?_, ?_, ?_, ?_, ?_, Nat.zero_le _, rfl, rfl, hu, hd', rfl⟩
    all_goals (try refine fS (aI @h0 <|@hm) ?_);all_goals try exact True.intro
    all_goals rfl
  clear hd ho h0 hm hu hd'
  rintro ⟨i, a, b⟩ s ⟨hd, ho, h2, h3, h4, h15, h16, r2, r10, r13, hi, hal, hbl, ha, hb, hR⟩
  dsimp only at h16 r10 r13 hi hal hbl ha hb hR
  refine gP (aI @h15 <|@h16) ?_
  refine cnd (fun h => ?_) (fun h => ?_)
  · have hi' : i < u.length := by have := of_decide_eq_true h; omega
    clear h
    have e1 : V.int .i64 (wr .i64 ((i : Int) + 1)) = vn (i + 1) := by rw [wr_i64 (by omega) (by omega)]; rfl
    have hS := redI_succ i d.length (u, d)
    rw [← hR] at hS
    clear hR
    obtain ⟨c, hc⟩ : ∃ c : List Nat × List Nat, c = (a, b) := ⟨_, rfl⟩
    rw [← hc] at hS
    have hal' : c.1.length = u.length := by rw [hc]; exact hal
    have hbl' : c.2.length = d.length := by rw [hc]; exact hbl
    refine gPS (aI @h4 <|@h16) ?_
    refine W_loopg (fun (x : Nat × List Nat × List Nat) s => s.dfs = [] ∧ s.m.out.length = 0 ∧ s.t.get 2 = .ptr ⟨0, 2, 0, 1⟩ 0 0 ∧ s.t.get 3 = .rs ⟨0, 10, 0, 1⟩ 154 0 u.length ∧ s.t.get 4 = .rs ⟨0, 13, 0, 1⟩ 154 0 d.length ∧ s.t.get 5 = vn i ∧ s.t.get 15 = vn u.length ∧ s.t.get 16 = vn i ∧ s.t.get 20 = vn d.length ∧ s.t.get 21 = vn x.1 ∧
      s.m.row ⟨0, 2, 0, 1⟩ = some ⟨1, 159, false, false, [.agg [.rs ⟨0, 2, 1, 1⟩ 0 0 0, .rs ⟨0, 2, 2, 1⟩ 0 0 0]]⟩ ∧ s.m.row ⟨0, 10, 0, 1⟩ = some ⟨1, 154, true, false, usV x.2.1⟩ ∧ s.m.row ⟨0, 13, 0, 1⟩ = some ⟨1, 154, true, false, usV x.2.2⟩ ∧
      x.1 ≤ d.length ∧ x.2.1.length = u.length ∧ x.2.2.length = d.length ∧ okF x.2.1 ∧ okF x.2.2 ∧ x.2 = redJ i x.1 c) (fun x => d.length - x.1) (0, a, b) ?_ ?_
    · refine ⟨hd, ?_, ?_, ?_, ?_, ?_, ?_, ?_, ?_, ?_, ?_, ?_, ?_, Nat.zero_le _, hal, hbl, ha, hb, hc.symm⟩
      all_goals (try refine fS (aI @h2 <|aI @h3 <|aI @h4 <|aI @h15 <|aI @h16 <|aI @r2 <|aI @r10 <|aI @r13 <|@ho) ?_);all_goals try exact True.intro
      all_goals rfl
    clear hd ho h2 h3 h4 h15 h16 r2 r10 r13 ha hb hal hbl hc
    rintro ⟨j, a, b⟩ s ⟨hd, ho, h2, h3, h4, h5, h15, h16, h20, h21, r2, r10, r13, hj, hal, hbl, ha, hb, hR⟩
    dsimp only at h21 r10 r13 hj hal hbl ha hb hR
    refine gP (aI @h20 <|@h21) ?_
    refine cnd (fun h => ?_) (fun h => ?_)
    · have hj' : j < d.length := by have := of_decide_eq_true h; omega
      clear h
      obtain ⟨x, hx⟩ : ∃ x, a[i]? = some x := ⟨a[i]'(by omega), by simp⟩
      obtain ⟨y, hy⟩ : ∃ y, b[j]? = some y := ⟨b[j]'(by omega), by simp⟩
      have bx := ha x (List.mem_of_getElem? hx)
      have bY := hb y (List.mem_of_getElem? hy)
      have hT := redJ_succ i j c
      rw [← hR] at hT
      have hst : stepR i j (a, b) = (a.set i (x / Nat.gcd x y), b.set j (y / Nat.gcd x y)) := by
        have e1 : a.getD i 0 = x := by rw [List.getD_eq_getElem?_getD, hx]; rfl
        have e2 : b.getD j 0 = y := by rw [List.getD_eq_getElem?_getD, hy]; rfl
        simp only [stepR, e1, e2]
      rw [hst] at hT
      clear hst hR
      have q := P141 x y bx.2 bY.2
      have hgx := Nat.gcd_dvd_left x y
      have hgy := Nat.gcd_dvd_right x y
      have hg0 : 0 < Nat.gcd x y := Nat.gcd_pos_of_pos_left _ (by omega)
      generalize Nat.gcd x y = g at *
      have bx' : 1 ≤ x / g ∧ x / g < 4611686018427387905 := ⟨Nat.div_pos (Nat.le_of_dvd (by omega) hgx) hg0, Nat.lt_of_le_of_lt (Nat.div_le_self _ _) bx.2⟩
      have by' : 1 ≤ y / g ∧ y / g < 4611686018427387905 := ⟨Nat.div_pos (Nat.le_of_dvd (by omega) hgy) hg0, Nat.lt_of_le_of_lt (Nat.div_le_self _ _) bY.2⟩
      have gx := usV_get hx
      have gy := usV_get hy
      have hgne : ¬ ((g : Int) = 0) := by omega
      have w1 : V.int .u64 (wr .u64 (Int.tdiv (x : Int) (g : Int))) = vu (x / g) := by rw [cast_tdiv, wr_u64 (by omega)]
      have w2 : V.int .u64 (wr .u64 (Int.tdiv (y : Int) (g : Int))) = vu (y / g) := by rw [cast_tdiv, wr_u64 (by omega)]
      have i1 : (i : Int) < (u.length : Int) := by omega
      have i2 : (0 : Int) ≤ (i : Int) := by omega
      have j1 : (j : Int) < (d.length : Int) := by omega
      have j2 : (0 : Int) ≤ (j : Int) := by omega
      have e2 : V.int .i64 (wr .i64 ((j : Int) + 1)) = vn (j + 1) := by rw [wr_i64 (by omega) (by omega)]; rfl
      have okx : okF (a.set i (x / g)) := okF_set ha bx'
      have oky : okF (b.set j (y / g)) := okF_set hb by'
      have hal2 : (a.set i (x / g)).length = u.length := by rw [List.length_set]; exact hal
      have hbl2 : (b.set j (y / g)).length = d.length := by rw [List.length_set]; exact hbl
      have ial : i < a.length := by omega
      have jbl : j < b.length := by omega
      clear hx hy hgx hgy hg0 bx bY bx' by' ha hb
      refine gPAS (aI @h2 <|aI @h3 <|aI @h4 <|aI @h5 <|aI @h15 <|aI @h16 <|aI @h20 <|aI @h21 <|aI @r2 <|aI @r10 <|aI @r13 <|aI @ho <|aI @usV_length <|aI @usV_set <|aI @hal <|aI @hbl <|aI @gx <|aI @gy <|aI @i1 <|aI @i2 <|aI @j1 <|aI @j2 <|aI @hi' <|aI @hj' <|aI @ial <|aI @jbl <|aI @hgne <|aI @w1 <|aI @w2 <|aI @co141 <|aI @sr141 <|aI @q.iffx <|@e2) ?_
      refine ⟨(j + 1, a.set i (x / g), b.set j (y / g)), ⟨hd, ?_, ?_, ?_, ?_, ?_, ?_, ?_, ?_, ?_, ?_, ?_, ?_, hj', hal2, hbl2, okx, oky, by rw [hT]⟩, by show d.length - (j + 1) < d.length - j; omega⟩
      all_goals (try refine fS (aI @h2 <|aI @h3 <|aI @h4 <|aI @h5 <|aI @h15 <|aI @h16 <|aI @h20 <|aI @r2 <|aI @r10 <|aI @r13 <|aI @ho <|@e2) ?_);all_goals try exact True.intro
    · have hj' : j = d.length := by have := of_decide_eq_false h; omega
      subst hj'
      clear h
      refine gP (aI @h16 <|@e1) ?_
      refine ⟨(i + 1, a, b), ⟨hd, ?_, ?_, ?_, ?_, ?_, ?_, ?_, ?_, ?_, hi', hal, hbl, ha, hb, by rw [hS]; exact hR⟩, by show u.length - (i + 1) < u.length - i; omega⟩
      all_goals (try refine f0 (aI @h2 <|aI @h3 <|aI @h4 <|aI @h15 <|aI @r2 <|aI @r10 <|aI @r13 <|@ho) ?_);all_goals try exact True.intro
  · have hi' : i = u.length := by have := of_decide_eq_false h; omega
    subst hi'
    clear h
    rw [← hR]
    have q1 := P163 a (by omega)
    have q2 := P163 b (by omega)
    have c1 : cut (usV a) 0 u.length = usV a := by rw [← hal]; exact cut_us a
    have c2 : cut (usV b) 0 d.length = usV b := by rw [← hbl]; exact cut_us b
    clear hR ha hb
    refine gPAS (aI @h2 <|aI @h3 <|aI @h4 <|aI @r2 <|aI @r10 <|aI @r13 <|aI @ho <|aI @usV_length <|aI @hal <|aI @hbl <|aI @c1 <|aI @c2 <|aI @co163 <|aI @sr163 <|aI @q1.iffx <|@q2.iffx) ?_
    refine rPAS hd (aI @Tryd.results154 <|aI @h2 <|aI @h3 <|aI @h4 <|aI @r2 <|aI @r10 <|aI @r13 <|@ho) ?_
    try exact True.intro
end Go.Proofs.YtpocekfifokndaaDoor
namespace Go.Proofs.YtpocekfifokndaaDoor
open Go Go.Ev Go.Pl
set_option maxRecDepth 100000
set_option maxHeartbeats 4000000
def ratQ (n d : Nat) : Nat × Nat × Int := if n / Nat.gcd n d ≤ 1099511627776 ∧ d / Nat.gcd n d ≤ 1048576 then (n / Nat.gcd n d, d / Nat.gcd n d, 0) else (0, 0, 6)
theorem red11 (n d : Nat) : redI 1 1 ([n], [d]) = ([n / Nat.gcd n d], [d / Nat.gcd n d]) := rfl
theorem prod_trim (n : Nat) : prodF (trimF [n]) = n := by
  by_cases c : n = 1
  · subst c; rfl
  · have : trimF [n] = [n] := by simp [trimF, c]
    rw [this]; simp [prodF]
theorem P145 (n d : Nat) (hn : 1 ≤ n) (hd1 : 1 ≤ d) (hn2 : n < 4611686018427387905) (hd2 : d < 4611686018427387905) : Ans X 145 [.agg [.sl (usV [n]), .sl (usV [d])], .bool false] (.ret (.tup [.agg [vn (ratQ n d).1, vn (ratQ n d).2.1], vi (ratQ n d).2.2])) := by
  refine call_of_X (fn := Tryd.f145) 2 Tryd.func145 rfl (by decide +kernel) rfl ?_ ?_ ?_ ?_
  · rfl
  · intro h; exact absurd h (by rw [sr145]; decide)
  · intro v hv; injection hv with hv; subst hv; rfl
  intro s hs hd ho
  have hm : s.m = ⟨.nil, []⟩ := by subst hs; rfl
  have h0 : s.t.get 0 = .agg [.sl (usV [n]), .sl (usV [d])] := by subst hs; rfl
  have h1 : s.t.get 1 = .bool false := by subst hs; rfl
  clear hs
  have q1 := P154 [n] [d] (by intro x hx; rw [List.mem_singleton.1 hx]; exact ⟨hn, hn2⟩) (by intro x hx; rw [List.mem_singleton.1 hx]; exact ⟨hd1, hd2⟩) (Nat.zero_lt_one) (Nat.zero_lt_one) (show 1 < 1000 by decide) (show 1 < 1000 by decide)
  have hg0 : 0 < Nat.gcd n d := Nat.gcd_pos_of_pos_left _ (by omega)
  have ga : 1 ≤ n / Nat.gcd n d := Nat.div_pos (Nat.le_of_dvd (by omega) (Nat.gcd_dvd_left n d)) hg0
  have gb : 1 ≤ d / Nat.gcd n d := Nat.div_pos (Nat.le_of_dvd (by omega) (Nat.gcd_dvd_right n d)) hg0
  have la : n / Nat.gcd n d ≤ n := Nat.div_le_self _ _
  have lb : d / Nat.gcd n d ≤ d := Nat.div_le_self _ _
  rw [show ([n] : List Nat).length = 1 from rfl, show ([d] : List Nat).length = 1 from rfl, red11] at q1
  unfold ratQ
  generalize n / Nat.gcd n d = a at *
  generalize d / Nat.gcd n d = b at *
  have mem : ∀ c x : Nat, 1 ≤ c → c < 4611686018427387905 → x ∈ trimF [c] → 1 ≤ x ∧ x < 18446744073709551616 := fun c x h1 h2 hx => by
    have := List.mem_singleton.1 (List.mem_filter.1 hx).1
    omega
  have len : ∀ c : Nat, (trimF [c]).length < 1000000 := fun c => Nat.lt_of_le_of_lt (List.length_filter_le _ _) (show 1 < 1000000 by decide)
  have q2 := P155 (trimF [a]) 1099511627776 (len a) (fun x hx => mem a x ga (by omega) hx) (by decide) (by decide)
  have q3 := P155 (trimF [b]) 1048576 (len b) (fun x hx => mem b x gb (by omega) hx) (by decide) (by decide)
  rw [withF, prod_trim] at q2 q3
  dsimp only at q1
  generalize trimF [a] = A at *
  generalize trimF [b] = B at *
  clear mem len hg0 hn hd1
  by_cases c1 : a ≤ 1099511627776
  · rw [if_pos c1] at q2
    have q2 : Ans X 155 [.sl (usV A), .int .u64 1099511627776] (.ret (.tup [vu a, .bool true])) := q2
    by_cases c2 : b ≤ 1048576
    · rw [if_pos c2] at q3
      have q3 : Ans X 155 [.sl (usV B), .int .u64 1048576] (.ret (.tup [vu b, .bool true])) := q3
      rw [if_pos ⟨c1, c2⟩]
      have w1 : V.int .i64 (wr .i64 (a : Int)) = vn a := by rw [wr_nat (by omega)]
      have w2 : V.int .i64 (wr .i64 (b : Int)) = vn b := by rw [wr_nat (by omega)]
      refine gPAS (aI @h0 <|aI @h1 <|aI @hm <|aI @co154 <|aI @sr154 <|aI @q1.iffx <|aI @co155 <|aI @sr155 <|aI @q2.iffx <|@q3.iffx) ?_
      refine cnd (fun h => ?_) (fun h => ?_)
      · simp at h
      refine gP @h1 ?_
      refine cnd (fun h => ?_) (fun h => ?_)
      · simp at h
      refine gPAS (aI @hm <|aI @w1 <|@w2) ?_
      refine rPAS hd (aI @Tryd.results145 <|@hm) ?_
      try exact True.intro
    · rw [if_neg c2] at q3
      have q3 : Ans X 155 [.sl (usV B), .int .u64 1048576] (.ret (.tup [.int .u64 0, .bool false])) := q3
      rw [if_neg (fun e => c2 e.2)]
      refine gPAS (aI @h0 <|aI @h1 <|aI @hm <|aI @co154 <|aI @sr154 <|aI @q1.iffx <|aI @co155 <|aI @sr155 <|aI @q2.iffx <|@q3.iffx) ?_
      refine cnd (fun h => ?_) (fun h => ?_)
      · refine gPAS @hm ?_
        refine rPAS hd (aI @Tryd.results145 <|@hm) ?_
        try exact True.intro
        rfl
      · simp at h
  · rw [if_neg c1] at q2
    have q2 : Ans X 155 [.sl (usV A), .int .u64 1099511627776] (.ret (.tup [.int .u64 0, .bool false])) := q2
    rw [if_neg (fun e => c1 e.1)]
    generalize (if b ≤ 1048576 then (b, true) else (0, false) : Nat × Bool) = w at *
    have q3 : Ans X 155 [.sl (usV B), .int .u64 1048576] (.ret (.tup [vu w.1, .bool w.2])) := q3
    refine gPAS (aI @h0 <|aI @h1 <|aI @hm <|aI @co154 <|aI @sr154 <|aI @q1.iffx <|aI @co155 <|aI @sr155 <|aI @q2.iffx <|@q3.iffx) ?_
    refine cnd (fun h => ?_) (fun h => ?_)
    · refine gPAS @hm ?_
      refine rPAS hd (aI @Tryd.results145 <|@hm) ?_
      try exact True.intro
      rfl
    · simp at h
end Go.Proofs.YtpocekfifokndaaDoor
namespace Go.Proofs.YtpocekfifokndaaDoor
open Go Go.Ev Go.Pl
set_option maxRecDepth 100000
set_option maxHeartbeats 4000000
theorem opdG0 (t : Tm) : opd X t (.global 0) = .cptr (.agg [.int .i64 0, .int .i64 1]) 76 0 := rfl
def ratZ (n d : Nat) : Nat × Nat × Int := if n = 0 then (0, 1, 0) else ratQ n d
theorem eqB1 : eqOk Tryd.prog 4 false false (V.bool false) (V.bool false) = true := by kernel_rfl
theorem eqB2 : eqT Tryd.prog 8 4 (V.bool false) (V.bool false) = some true := by kernel_rfl
theorem us1 (n : Nat) : V.sl [vu n] = .sl (usV [n]) := rfl
theorem P126 (n d : Nat) (hd1 : 1 ≤ d) (hn2 : n < 4611686018427387904) (hd2 : d < 4611686018427387904) : Ans X 126 [vn n, vn d] (.ret (.tup [.agg [vn (ratZ n d).1, vn (ratZ n d).2.1], vi (ratZ n d).2.2])) := by
  refine call_of_X (fn := Tryd.f126) 2 Tryd.func126 rfl (by decide +kernel) rfl ?_ ?_ ?_ ?_
  · rfl
  · intro h; exact absurd h (by rw [sr126]; decide)
  · intro v hv; injection hv with hv; subst hv; rfl
  intro s hs hd ho
  have hm : s.m = ⟨.nil, []⟩ := by subst hs; rfl
  have h0 : s.t.get 0 = vn n := by subst hs; rfl
  have h1 : s.t.get 1 = vn d := by subst hs; rfl
  clear hs
  have cd : ((d : Int) == 0) = false := by rw [beq_eq_false_iff_ne]; omega
  by_cases c : n = 0
  · subst c
    have h0 : s.t.get 0 = vi 0 := h0
    refine gPAS (aI @h0 <|aI @h1 <|aI @hm <|@cd) ?_
    refine cnd (fun h => ?_) (fun h => ?_)
    · simp at h
    refine gPAS (aI @h0 <|aI @h1 <|@hm) ?_
    refine cnd (fun h => ?_) (fun h => ?_)
    · refine gPAS (aI @h0 <|aI @h1 <|aI @hm <|@opdG0) ?_
      refine rPAS hd (aI @Tryd.results126 <|@hm) ?_
      try exact True.intro
      rfl
    · simp at h
  have cn : ((n : Int) == 0) = false := by rw [beq_eq_false_iff_ne]; omega
  have q1 := P142 n (by omega) (by omega)
  have q2 := P142 d (by omega) (by omega)
  rw [Int.natAbs_natCast] at q1 q2
  have q3 := P145 n d (by omega) hd1 (by omega) (by omega)
  have l1 : ¬ ((n : Int) < 0) := by omega
  have l2 : ¬ ((d : Int) < 0) := by omega
  rw [ratZ, if_neg c]
  refine gPAS (aI @h0 <|aI @h1 <|aI @hm <|aI @cd <|@cn) ?_
  refine cnd (fun h => ?_) (fun h => ?_)
  · simp at h
  clear h
  refine gPAS (aI @h0 <|aI @h1 <|aI @hm <|@cn) ?_
  refine cnd (fun h => ?_) (fun h => ?_)
  · simp at h
  clear h
  refine gPAS (aI @h0 <|aI @h1 <|aI @hm <|aI @l1 <|aI @l2 <|aI @eqB1 <|aI @eqB2 <|aI @cut_one <|aI @co142 <|aI @sr142 <|aI @q1.iffx <|aI @q2.iffx <|aI @us1 <|aI @co145 <|aI @sr145 <|@q3.iffx) ?_
  refine rPAS hd (aI @Tryd.results126 <|@hm) ?_
  try exact True.intro
end Go.Proofs.YtpocekfifokndaaDoor
namespace Go.Proofs.YtpocekfifokndaaDoor
open Go Go.Ev Go.Pl
set_option maxRecDepth 100000
set_option maxHeartbeats 4000000
theorem ferr_zero : ∀ {l : List (List Int × Int)}, (∀ p ∈ l, chkP p.1 p.2 = 0) → ferr l = 0
  | [], _ => rfl
  | q :: l, h => by
    rw [ferr, if_neg (fun e => e (h q List.mem_cons_self))]
    exact ferr_zero (fun p hp => h p (List.mem_cons_of_mem _ hp))
theorem pow60 (M : Nat) : (60 : Nat) ^ M = 2 ^ (2 * M) * 3 ^ M * 5 ^ M := by rw [Nat.pow_mul, ← Nat.mul_pow, ← Nat.mul_pow]
theorem invW_mul (i j k : Nat) : 2 ^ i * 3 ^ j * 5 ^ k * invW i j k = 60 ^ invK i j k := by
  have h1 : i ≤ 2 * invK i j k := by unfold invK; omega
  have h2 : j ≤ invK i j k := by unfold invK; omega
  have h3 : k ≤ invK i j k := by unfold invK; omega
  unfold invW
  generalize invK i j k = M at *
  have e2 : 2 ^ i * 2 ^ (2 * M - i) = 2 ^ (2 * M) := by rw [← Nat.pow_add]; congr 1; omega
  have e3 : 3 ^ j * 3 ^ (M - j) = 3 ^ M := by rw [← Nat.pow_add]; congr 1; omega
  have e5 : 5 ^ k * 5 ^ (M - k) = 5 ^ M := by rw [← Nat.pow_add]; congr 1; omega
  rw [pow60, ← e2, ← e3, ← e5]
  generalize 2 ^ i = a
  generalize 2 ^ (2 * M - i) = a'
  generalize 3 ^ j = b
  generalize 3 ^ (M - j) = b'
  generalize 5 ^ k = c
  generalize 5 ^ (M - k) = c'
  grind
def Rec (A U : Nat) : Prop := ∃ p, A * U = 60 ^ p
theorem Rec.pos {A U : Nat} (h : Rec A U) : 0 < A := by
  obtain ⟨p, h⟩ := h
  rcases Nat.eq_zero_or_pos A with rfl | h0
  · rw [Nat.zero_mul] at h; have := pow_pos p; omega
  · exact h0
theorem cop {R p : Nat} (hp : p = 2 ∨ p = 3 ∨ p = 5) (h : R % p ≠ 0) : Nat.Coprime R p := by
  have h1 : Nat.gcd R p ∣ p := Nat.gcd_dvd_right _ _
  have h2 : Nat.gcd R p ∣ R := Nat.gcd_dvd_left _ _
  have h3 : Nat.gcd R p ≤ p := Nat.le_of_dvd (by omega) h1
  unfold Nat.Coprime
  generalize Nat.gcd R p = g at *
  have h4 : g ≠ p := by rintro rfl; exact h (Nat.mod_eq_zero_of_dvd h2)
  rcases hp with rfl | rfl | rfl
  · have : g = 0 ∨ g = 1 := by omega
    rcases this with rfl | rfl
    · simp at h1
    · rfl
  · have : g = 0 ∨ g = 1 ∨ g = 2 := by omega
    rcases this with rfl | rfl | rfl
    · simp at h1
    · rfl
    · exact absurd h1 (by decide)
  · have : g = 0 ∨ g = 1 ∨ g = 2 ∨ g = 3 ∨ g = 4 := by omega
    rcases this with rfl | rfl | rfl | rfl | rfl
    · simp at h1
    · rfl
    · exact absurd h1 (by decide)
    · exact absurd h1 (by decide)
    · exact absurd h1 (by decide)
theorem rem_dvd (p N : Nat) (hp : 1 < p) (hN : 0 < N) : rem p N ∣ N := ⟨p ^ mult p N, (rem_spec hp hN).1⟩
theorem Rec.split {A U : Nat} (h : Rec A U) : (splitF [2, 3, 5] A).2 = 1 := by
  have hp := h.pos
  obtain ⟨p, h⟩ := h
  show rem 5 (rem 3 (rem 2 A)) = 1
  obtain ⟨_, p2, n2⟩ := rem_spec (p := 2) (by decide) hp
  obtain ⟨_, p3, n3⟩ := rem_spec (p := 3) (by decide) p2
  obtain ⟨_, p5, n5⟩ := rem_spec (p := 5) (by decide) p3
  have d5 := rem_dvd 5 _ (by decide) p3
  have d3 := rem_dvd 3 _ (by decide) p2
  have d2 := rem_dvd 2 _ (by decide) hp
  have c2 : Nat.Coprime (rem 5 (rem 3 (rem 2 A))) 2 := Nat.Coprime.coprime_dvd_left (Nat.dvd_trans d5 d3) (cop (.inl rfl) n2)
  have c3 : Nat.Coprime (rem 5 (rem 3 (rem 2 A))) 3 := Nat.Coprime.coprime_dvd_left d5 (cop (.inr (.inl rfl)) n3)
  have c5 := cop (.inr (.inr rfl)) n5
  have c60 : Nat.Coprime (rem 5 (rem 3 (rem 2 A))) 60 := Nat.Coprime.mul_right (Nat.Coprime.mul_right (Nat.Coprime.mul_right c2 c2) c3) c5
  have hd : rem 5 (rem 3 (rem 2 A)) ∣ 60 ^ p := by
    rw [← h]
    exact Nat.dvd_trans (Nat.dvd_trans d5 (Nat.dvd_trans d3 d2)) (Nat.dvd_mul_right _ _)
  exact Nat.Coprime.eq_one_of_dvd (Nat.Coprime.pow_right p c60) hd
theorem fr_key {n d W K k q : Nat} (hd : 0 < d) (hn : 0 < n) (hW : 0 < W) (h1 : d * W = 60 ^ K) (h2 : n * 60 ^ k = d * q) : digB q = digB (n * W) ∧ (vz q : Int) - k = (vz (n * W) : Int) - K := by
  have e : q * 60 ^ K = n * W * 60 ^ k := by
    refine Nat.eq_of_mul_eq_mul_left hd ?_
    rw [← Nat.mul_assoc, ← h2, ← h1]
    grind
  have hq : 0 < q := Nat.pos_of_ne_zero fun e0 => by
    rw [e0, Nat.mul_zero] at h2
    exact absurd h2 (Nat.ne_of_gt (Nat.mul_pos hn (pow_pos k)))
  refine ⟨?_, ?_⟩
  · rw [← digB_shift q K, e, digB_shift]
  · have a1 := vz_shift hq K
    have a2 := vz_shift (Nat.mul_pos hn hW) k
    rw [e, a2] at a1
    omega
def dP (N : Nat) (sh : Int) : List Int × Int := (zi (digB N), (vz N : Int) + sh)
theorem dP_plc (N : Nat) (sh : Int) : shV N sh = plcV (dP N sh) := by rw [shV, plcV, dP, nats_zi]
theorem chk_dP {N : Nat} {sh : Int} (h0 : 0 < N) (hN : N < 60 ^ 16) (h1 : -64 ≤ (vz N : Int) + sh) (h2 : (vz N : Int) + sh ≤ 64) : chkP (zi (digB N)) ((vz N : Int) + sh) = 0 := by
  have hv := digB_val hN
  have hl : (zi (digB N)).length ≠ 0 := by
    have := digB_pos h0
    simp [zi]; intro e; rw [e] at this; simp at this
  rw [chkP, if_neg (fun e => e hv.chk), if_neg (by omega), if_neg (fun e => hl e.1)]
theorem val_dP {N : Nat} {sh : Int} (t : Nat) (ht : (t : Int) = sh + 64) : valN (dP N sh) = N * 60 ^ t := by
  unfold valN dP
  dsimp only
  rw [numI_zi, num_digB]
  have e := core_eq N
  have e2 : ((vz N : Int) + sh + 64).toNat = vz N + t := by omega
  rw [e2, Nat.pow_add, ← Nat.mul_assoc, ← e]
theorem Q55b {l : List (List Int × Int)} {T t : Nat} {sh : Int} (hl : l.length ≤ 64) (hok : ∀ p ∈ l, chkP p.1 p.2 = 0) (hs : sumN l = T * 60 ^ t) (ht : (t : Int) = sh + 64) (hT0 : 0 < T) (hT : T < 60 ^ 16) (h2 : (vz T : Int) + sh ≤ 64) :
    Ans X 55 [.sl (plcsV l)] (.ret (.tup [shV T sh, vi 0])) := by
  have q := P55 l
  rw [sumS, if_neg (by omega), if_neg (fun e => e (ferr_zero hok)), hs] at q
  have hne : T * 60 ^ t ≠ 0 := Nat.mul_ne_zero (by omega) (Nat.pos_iff_ne_zero.1 (pow_pos t))
  have hg : goodP (T * 60 ^ t) (-64) := by
    refine Or.inr ⟨?_, ?_, ?_⟩
    · rw [digB_shift]; exact digB_len hT
    · rw [vz_shift hT0]; omega
    · rw [vz_shift hT0]; omega
  rw [if_pos hg, if_neg hne, digB_shift, vz_shift hT0] at q
  have e : (-64 : Int) + ((vz T + t : Nat) : Int) = (vz T : Int) + sh := by omega
  rw [e] at q
  exact q
theorem bring_le (p n : Int) (hn : 1 ≤ n) : 0 ≤ bringI p n ∧ bringI p n < n := by
  unfold bringI
  rw [if_neg (by omega)]
  exact ⟨Int.emod_nonneg p (by omega), Int.emod_lt_of_pos p (by omega)⟩
theorem eqT3 (d : Nat) (a : Int) : eqT Tryd.prog (d + 1) 3 (vi a) (vi a) = some true := by
  unfold eqT
  simp only [Tryd.underlying3, if_true, beq_self_eq_true]
theorem part76a (a b : Int) : Go.Ev.part Tryd.prog 3 [vi a, vi b] 0 = some (vi a) := by
  unfold Go.Ev.part
  rw [a3, c3]; rfl
theorem part76b (a b : Int) : Go.Ev.part Tryd.prog 3 [vi a, vi b] 1 = some (vi b) := by
  unfold Go.Ev.part
  rw [a3, c3]; rfl
theorem eqT76 (a b : Int) : eqT Tryd.prog 8 76 (.agg [vi a, vi b]) (.agg [vi a, vi b]) = some true := by
  unfold eqT
  simp only [Tryd.underlying76, show Tryd.prog.stoodInHeld 76 = false by kernel_rfl, Bool.false_eq_true, if_false, eqFields, part76a, part76b, eqT3 6, String.reduceEq]
theorem eqOk76 (cx cy : Bool) (u v : List V) : eqOk Tryd.prog 76 cx cy (.agg u) (.agg v) = true := by
  simp only [eqOk, show Tryd.prog.eqGuardType Tryd.prog.depth 76 = false by kernel_rfl, Bool.not_false]
end Go.Proofs.YtpocekfifokndaaDoor
namespace Go.Proofs.YtpocekfifokndaaDoor
open Go Go.Ev Go.Pl
set_option maxRecDepth 100000
set_option maxHeartbeats 4000000
def pl (M : Nat) : List Int × Int := if M = 0 then ([], 0) else dP M (-3)
theorem pl_zero : pl 0 = ([], 0) := if_pos rfl
theorem pl_pos {M : Nat} (h : 0 < M) : pl M = dP M (-3) := if_neg (by omega)
theorem chk_pl {M : Nat} (h : M < 60 ^ 16) : chkP (pl M).1 (pl M).2 = 0 := by
  rcases Nat.eq_zero_or_pos M with rfl | h0
  · rw [pl_zero]; rfl
  · have hv := vz_lt h0 h
    rw [pl_pos h0]
    exact chk_dP h0 h (by omega) (by omega)
theorem val_pl (M : Nat) : valN (pl M) = M * 60 ^ 61 := by
  rcases Nat.eq_zero_or_pos M with rfl | h0
  · rw [pl_zero, Nat.zero_mul, valN]
    show numL [] * _ = 0
    rw [show numL [] = 0 from rfl, Nat.zero_mul]
  · rw [pl_pos h0, val_dP 61 (by decide)]
theorem Q57c {M1 M2 : Nat} (h1 : M1 < 60 ^ 16) (h2 : M2 < 60 ^ 16) : Ans X 57 [plcV (pl M1), plcV (pl M2)] (.ret (.tup [vi (cmpN M1 M2), vi 0])) := by
  have q := P57 (pl M1) (pl M2)
  rw [cmpS, if_neg (fun e => e (chk_pl h1)), if_neg (fun e => e (chk_pl h2)), val_pl, val_pl, cmpN_mul] at q
  exact q
theorem Q55c {M1 M2 : Nat} (h1 : M1 < 60 ^ 15) (h2 : M2 < 60 ^ 15) : Ans X 55 [.sl [plcV (pl M1), plcV (pl M2)]] (.ret (.tup [plcV (pl (M1 + M2)), vi 0])) := by
  have hok : ∀ p ∈ [pl M1, pl M2], chkP p.1 p.2 = 0 := fun p hp => by
    rcases List.mem_cons.1 hp with rfl | hp
    · exact chk_pl (Nat.lt_trans h1 (by decide))
    · obtain rfl : p = pl M2 := by simpa using hp
      exact chk_pl (Nat.lt_trans h2 (by decide))
  have hs : sumN [pl M1, pl M2] = (M1 + M2) * 60 ^ 61 := by
    have e : sumN [pl M1, pl M2] = valN (pl M1) + valN (pl M2) := by simp [sumN]
    rw [e, val_pl, val_pl, Nat.add_mul]
  rcases Nat.eq_zero_or_pos (M1 + M2) with h0 | h0
  · have q := P55 [pl M1, pl M2]
    rw [sumS, if_neg (by simp), if_neg (fun e => e (ferr_zero hok)), hs, h0, Nat.zero_mul, if_pos (.inl rfl), if_pos rfl, digB_zero] at q
    rw [h0, pl_zero]
    exact q
  · have q := Q55b (l := [pl M1, pl M2]) (T := M1 + M2) (t := 61) (sh := -3) (by simp) hok hs (by decide) h0 (by omega) (by
      have := vz_lt (n := 16) h0 (by omega)
      omega)
    rw [pl_pos h0, ← dP_plc]
    exact q
theorem Q63 {N D U : Nat} (hU : D * U = 216000) (hg : Nat.gcd N D = 1) (hN : N ≤ 1099511627776) : Ans X 63 [.agg [vn N, vn D]] (.ret (.tup [plcV (pl (N * U)), vi 0])) := by
  have hD0 : 0 < D := Nat.pos_of_ne_zero fun e => by subst e; omega
  have hU0 : 0 < U := Nat.pos_of_ne_zero fun e => by subst e; omega
  have hD : D ≤ 216000 := by rw [← hU]; exact Nat.le_mul_of_pos_right _ hU0
  have q := P63 N D
  have hr : isRat N D = true := by
    unfold isRat
    rw [decide_eq_true_eq]
    exact ⟨by omega, by omega, by omega, by omega, hg⟩
  have hs : (splitF [2, 3, 5] D).2 = 1 := Rec.split ⟨3, hU⟩
  have e2 := split_eq hD0 hs
  rw [frS, if_neg (by rw [hr]; simp), Int.toNat_natCast, Int.toNat_natCast, if_neg (by rw [hs]; simp)] at q
  rcases Nat.eq_zero_or_pos N with rfl | hN0
  · rw [if_pos (show ((0 : Nat) : Int) = 0 from rfl)] at q
    rw [Nat.zero_mul, pl_zero]
    exact q
  · rw [if_neg (by omega)] at q
    generalize mult 2 D = i at *
    generalize mult 3 (rem 2 D) = j at *
    generalize mult 5 (rem 3 (rem 2 D)) = k at *
    have h1 : D * invW i j k = 60 ^ invK i j k := by rw [e2]; exact invW_mul i j k
    obtain ⟨a, b⟩ := fr_key (k := 3) (q := N * U) hD0 hN0 (invW_pos i j k) h1 (by
      rw [← Nat.mul_assoc, Nat.mul_comm D N, Nat.mul_assoc, hU])
    rw [← a, ← b] at q
    rw [pl_pos (Nat.mul_pos hN0 hU0), ← dP_plc]
    exact q
theorem ratF_spec {N D : Nat} (hD0 : 0 < D) (hD : D ≤ 1048576) (r : Nat) : ∀ (ps : List Nat) (x d : Nat), (∀ p ∈ ps, p = 2 ∨ p = 3 ∨ p = 5) → x * D = N * (d * (ps.prod * r)) → Nat.gcd x d = 1 →
    ∃ x' d', ratF ps x d = some (x', d') ∧ x' * D = N * (d' * r) ∧ Nat.gcd x' d' = 1
  | [], x, d, _, h, hg => ⟨x, d, rfl, by rw [h, List.prod_nil, Nat.one_mul], hg⟩
  | p :: ps, x, d, hp, h, hg => by
    have hp1 := hp p (by simp)
    have hps : ∀ q ∈ ps, q = 2 ∨ q = 3 ∨ q = 5 := fun q hq => hp q (List.mem_cons_of_mem _ hq)
    have hp0 : 0 < p := by omega
    rw [List.prod_cons] at h
    by_cases c : x % p = 0
    · obtain ⟨y, rfl⟩ : p ∣ x := Nat.dvd_of_mod_eq_zero c
      have e : ratF (p :: ps) (p * y) d = ratF ps y d := by rw [ratF, if_pos c, Nat.mul_div_cancel_left _ hp0]
      rw [e]
      refine ratF_spec hD0 hD r ps y d hps ?_ ?_
      · refine Nat.eq_of_mul_eq_mul_left hp0 ?_
        calc p * (y * D) = p * y * D := (Nat.mul_assoc _ _ _).symm
          _ = N * (d * (p * ps.prod * r)) := h
          _ = p * (N * (d * (ps.prod * r))) := by simp only [Nat.mul_assoc, Nat.mul_left_comm, Nat.mul_comm]
      · exact Nat.Coprime.coprime_dvd_left (Nat.dvd_mul_left y p) hg
    · have hc : Nat.Coprime x (d * p) := Nat.Coprime.mul_right hg (cop hp1 c)
      have h2 : x * D = N * (d * p * (ps.prod * r)) := by
        rw [h]
        simp only [Nat.mul_assoc, Nat.mul_left_comm, Nat.mul_comm]
      have hdv : d * p ∣ D := by
        refine hc.symm.dvd_of_dvd_mul_left (k := d * p) (m := x) (n := D) ?_
        rw [h2]
        exact Nat.dvd_trans (Nat.dvd_mul_right _ _) (Nat.dvd_mul_left _ _)
      have hle := Nat.le_of_dvd hD0 hdv
      rw [ratF, if_neg c, if_neg (by omega)]
      exact ratF_spec hD0 hD r ps x (d * p) hps h2 hc
theorem ratK_spec {N D : Nat} (hD0 : 0 < D) (hD : D ≤ 1048576) : ∀ (k x d : Nat), x * D = N * (d * 60 ^ k) → Nat.gcd x d = 1 → ∃ x' d', ratK k x d = some (x', d') ∧ x' * D = N * d' ∧ Nat.gcd x' d' = 1
  | 0, x, d, h, hg => ⟨x, d, rfl, by rw [h, Nat.pow_zero, Nat.mul_one], hg⟩
  | k + 1, x, d, h, hg => by
    obtain ⟨x', d', e, h1, h2⟩ := ratF_spec (N := N) hD0 hD (60 ^ k) [2, 2, 3, 5] x d (by decide) (by rw [h, Nat.pow_succ, Nat.mul_comm (60 ^ k)]; rfl) hg
    obtain ⟨x2, d2, e2, h3⟩ := ratK_spec hD0 hD k x' d' h1 h2
    exact ⟨x2, d2, by rw [ratK, e]; exact e2, h3⟩
theorem low_eq {N D x d : Nat} (hD0 : 0 < D) (hg : Nat.gcd N D = 1) (h : x * D = N * d) (hx : Nat.gcd x d = 1) : x = N ∧ d = D := by
  have a : d ∣ D := (Nat.Coprime.symm hx).dvd_of_dvd_mul_left (k := d) (m := x) (n := D) (by rw [h]; exact Nat.dvd_mul_left _ _)
  have b : D ∣ d := (Nat.Coprime.symm hg).dvd_of_dvd_mul_left (k := D) (m := N) (n := d) (by rw [← h]; exact Nat.dvd_mul_left _ _)
  have e : d = D := Nat.dvd_antisymm a b
  subst e
  exact ⟨Nat.eq_of_mul_eq_mul_right hD0 h, rfl⟩
theorem Q61 {N D M : Nat} (hD0 : 0 < D) (hD : D ≤ 1048576) (hM : M * D = N * 216000) (hg : Nat.gcd N D = 1) (hN : N ≤ 1099511627776) (hMb : M < 60 ^ 16) : Ans X 61 [plcV (pl M)] (.ret (.tup [.agg [vn N, vn D], vi 0])) := by
  have q := P61 (pl M)
  have e : ratS (pl M) = (N, D, 0) := by
    rw [ratS, if_neg (fun e => e (chk_pl hMb))]
    rcases Nat.eq_zero_or_pos M with rfl | h0
    · have hN0 : N = 0 := by omega
      subst hN0
      have hD1 : D = 1 := by rw [Nat.gcd_zero_left] at hg; exact hg
      subst hD1
      rw [if_pos (by rw [pl_zero]; rfl)]
    · rw [pl_pos h0]
      have hl : (dP M (-3)).1.length ≠ 0 := by
        have := digB_pos h0
        simp only [dP, zi, List.length_map]; omega
      rw [if_neg hl]
      simp only [dP]
      rw [numI_zi, num_digB]
      have hce := core_eq M
      have hk : ∃ k, (-((vz M : Int) + -3)).toNat = k ∧ (core M * 60 ^ ((vz M : Int) + -3).toNat) * D = N * (1 * 60 ^ k) := by
        refine ⟨_, rfl, ?_⟩
        generalize core M = c at *
        generalize vz M = v at *
        by_cases hv : v ≤ 3
        · rw [show ((v : Int) + -3).toNat = 0 by omega, show (-((v : Int) + -3)).toNat = 3 - v by omega, Nat.pow_zero, Nat.mul_one, Nat.one_mul]
          have h6 : 216000 = 60 ^ (3 - v) * 60 ^ v := by rw [← Nat.pow_add, show 3 - v + v = 3 by omega]
          refine Nat.eq_of_mul_eq_mul_right (pow_pos v) ?_
          calc c * D * 60 ^ v = c * 60 ^ v * D := Nat.mul_right_comm _ _ _
            _ = M * D := by rw [← hce]
            _ = N * 216000 := hM
            _ = N * 60 ^ (3 - v) * 60 ^ v := by rw [Nat.mul_assoc, ← h6]
        · rw [show ((v : Int) + -3).toNat = v - 3 by omega, show (-((v : Int) + -3)).toNat = 0 by omega]
          have h6 : 60 ^ v = 60 ^ (v - 3) * 216000 := by
            rw [show (216000 : Nat) = 60 ^ 3 from rfl, ← Nat.pow_add, show v - 3 + 3 = v by omega]
          refine Nat.eq_of_mul_eq_mul_right (show 0 < 216000 by decide) ?_
          calc c * 60 ^ (v - 3) * D * 216000 = c * (60 ^ (v - 3) * 216000) * D := by rw [Nat.mul_right_comm, Nat.mul_assoc c]
            _ = M * D := by rw [← h6, ← hce]
            _ = N * 216000 := hM
            _ = N * (1 * 60 ^ 0) * 216000 := by rw [Nat.pow_zero, Nat.one_mul, Nat.mul_one]
      obtain ⟨k, hk1, hk2⟩ := hk
      rw [hk1]
      obtain ⟨x', d', e1, h1, h2⟩ := ratK_spec hD0 hD k _ 1 hk2 (Nat.gcd_one_right _)
      obtain ⟨rfl, rfl⟩ := low_eq hD0 hg h1 h2
      rw [e1, ratE]
      exact if_pos hN
  rw [e] at q
  exact q
end Go.Proofs.YtpocekfifokndaaDoor
namespace Go.Proofs.YtpocekfifokndaaDoor
open Go Go.Ev Go.Pl
set_option maxRecDepth 100000
set_option maxHeartbeats 4000000
def dens : List Nat := [1, 2, 3, 4, 5, 6, 8, 9, 10, 12, 15, 20, 24, 25, 27, 30, 36, 40, 50, 54, 60, 75, 100, 120, 150, 200, 225, 270, 360, 540, 600, 675, 1080, 1350, 1800, 2700, 5400]
theorem dens_get (i : Nat) (h : i < 37) : ∃ d, dens[i]? = some d ∧ 1 ≤ d ∧ d ∣ 5400 := by
  have hh : ∀ i, i < 37 → ∃ d, dens[i]? = some d ∧ 1 ≤ d ∧ d ∣ 5400 := by decide +kernel
  exact hh i h
theorem ratZ_spec {n d : Nat} (hn : n ≤ 1099511627776) (hd : 1 ≤ d) (hT : ∃ T, d / Nat.gcd n d = T ∧ T ∣ 5400) : ∃ N D U, ratZ n d = (N, D, 0) ∧ N ≤ n ∧ D * U = 216000 ∧ Nat.gcd N D = 1 ∧ N * d = n * D ∧ D ∣ 5400 := by
  have hg0 : 0 < Nat.gcd n d := Nat.gcd_pos_of_pos_right _ hd
  obtain ⟨T, hT, hTd⟩ := hT
  have hT5 : T ≤ 5400 := Nat.le_of_dvd (by decide) hTd
  have hTU : ∃ U, T * U = 216000 := by
    obtain ⟨c, hc⟩ := hTd
    exact ⟨c * 40, by rw [← Nat.mul_assoc, ← hc]⟩
  obtain ⟨U, hU⟩ := hTU
  by_cases c : n = 0
  · subst c
    exact ⟨0, 1, 216000, by rw [ratZ, if_pos rfl], Nat.le_refl _, rfl, rfl, by simp, Nat.one_dvd _⟩
  · have e1 : n / Nat.gcd n d ≤ n := Nat.div_le_self _ _
    refine ⟨n / Nat.gcd n d, T, U, ?_, e1, hU, ?_, ?_, hTd⟩
    · rw [ratZ, if_neg c, ratQ, hT, if_pos ⟨by omega, by omega⟩]
    · rw [← hT]
      exact Nat.coprime_div_gcd_div_gcd hg0
    · rw [← hT]
      have a := Nat.div_mul_cancel (Nat.gcd_dvd_left n d)
      have b := Nat.div_mul_cancel (Nat.gcd_dvd_right n d)
      generalize Nat.gcd n d = g at *
      generalize n / g = N at *
      generalize d / g = D at *
      rw [← a, ← b]
      simp only [Nat.mul_assoc, Nat.mul_left_comm, Nat.mul_comm]
theorem P67 (x0 x1 : Int) : ∃ N D U : Nat, N ≤ 1000000 ∧ D * U = 216000 ∧ Nat.gcd N D = 1 ∧ D ∣ 5400 ∧ Ans X 67 [.agg [vi x0, vi x1]] (.ret (.tup [.agg [vn N, vn D], .bool true])) := by
  have q1 := P33 x0 1000001 (by decide)
  have q2 := P33 x1 37 (by decide)
  obtain ⟨l1, g1⟩ := bring_le x0 1000001 (by decide)
  obtain ⟨l2, g2⟩ := bring_le x1 37 (by decide)
  obtain ⟨n, hn⟩ : ∃ n : Nat, bringI x0 1000001 = (n : Int) := ⟨_, (Int.toNat_of_nonneg l1).symm⟩
  obtain ⟨i, hi⟩ : ∃ n : Nat, bringI x1 37 = (n : Int) := ⟨_, (Int.toNat_of_nonneg l2).symm⟩
  rw [hn] at q1 l1 g1
  rw [hi] at q2 l2 g2
  obtain ⟨d, hd0, hd1, hdd⟩ := dens_get i (by omega)
  have hd5 : d ≤ 5400 := Nat.le_of_dvd (by decide) hdd
  obtain ⟨N, D, U, hz, hN, hU, hg, _, hDd⟩ := ratZ_spec (n := n) (d := d) (by omega) hd1 ⟨_, rfl, Nat.dvd_trans (Nat.div_dvd_of_dvd (Nat.gcd_dvd_right n d)) hdd⟩
  refine ⟨N, D, U, by omega, hU, hg, hDd, ?_⟩
  have q3 := P126 n d hd1 (by omega) (by omega)
  rw [hz] at q3
  dsimp only at q3
  have hget : (nats dens)[i]? = some (vn d) := by rw [nats_get?, hd0]; rfl
  have hl : (nats dens).length = 37 := rfl
  have hi37 : (i : Int) < 37 := by omega
  have hi37' : i < 37 := by omega
  have hlit : [vi 1, vi 2, vi 3, vi 4, vi 5, vi 6, vi 8, vi 9, vi 10, vi 12, vi 15, vi 20, vi 24, vi 25, vi 27, vi 30, vi 36, vi 40, vi 50, vi 54, vi 60, vi 75, vi 100, vi 120, vi 150, vi 200, vi 225, vi 270, vi 360, vi 540, vi 600, vi 675, vi 1080, vi 1350, vi 1800, vi 2700, vi 5400] = nats dens := rfl
  clear hz hN hU hg hDd hdd hd0 hd5 hn hi g1 l1
  refine call_of_X (fn := Tryd.f67) 1 Tryd.func67 rfl (by decide +kernel) rfl ?_ ?_ ?_ ?_
  · rfl
  · intro h; exact absurd h (by rw [sr67]; decide)
  · intro v hv; injection hv with hv; subst hv; rfl
  intro s hs hd ho
  have hm : s.m = ⟨.nil, []⟩ := by subst hs; rfl
  have h0 : s.t.get 0 = .agg [vi x0, vi x1] := by subst hs; rfl
  clear hs
  have d1 : ∀ m, snaps m (nats dens) = some (nats dens) := fun _ => rfl
  have d2 : ∀ m, frzs m (nats dens) = m := fun _ => rfl
  have d3 : fillElems 1 (List.replicate 37 (V.int .i64 0)) ([0, 1, 2, 3, 4, 5, 6, 7, 8, 9, 10, 11, 12, 13, 14, 15, 16, 17, 18, 19, 20, 21, 22, 23, 24, 25, 26, 27, 28, 29, 30, 31, 32, 33, 34, 35, 36].zip (nats dens)) = some (nats dens) := rfl
  have d4 : (nats dens).all elemOk = true := rfl
  have d5 : 37 ≤ 2 ^ 20 := by decide
  refine gPAS (aI @h0 <|@hm) ?_
  with_reducible refine W_region_k ?_
  intro K hK
  simp (maxSteps := 2000000) (disch := omega) only [SA, ofValue, ofCell, bin, intBin, un, idx, Go.Ev.builtin, calleeOf, V.isNilS, V.depthOk, depth1, V.ok1, V.isAgg, V.cells, isConst, Nat.reduceBEq, Nat.reduceEqDiff, ↓reduceIte, Nat.reduceLeDiff, Nat.reduceAdd, Nat.reduceMul, Nat.reduceSub, Nat.reduceLT, Int.reduceAdd, Int.reduceSub, Int.reduceMul, Int.reduceLT, Int.reduceLE, Int.reduceToNat, Int.reduceNeg, reduceIte, reduceCtorEq, SPx, SAx, SSx, appendTo, elemsOf, h0, hm, hlit, d1, d2, d3, d4, d5]
  refine hK _ _ ?_
  clear hK K hlit d1 d2 d3 d4 d5
  generalize nats dens = L at *
  have q2 : Ans X 33 [vi x1, vn 37] (.ret (vn i)) := q2
  have hi37 : (i : Int) < ((37 : Nat) : Int) := hi37
  have rr : rowsOf (V.agg [vn N, vn D]) = [] := rfl
  refine gPAS (aI @h0 <|aI @hm <|aI @rr <|aI @co33 <|aI @sr33 <|aI @q1.iffx <|aI @q2.iffx <|aI @hl <|aI @hget <|aI @hi37 <|aI @hi37' <|aI @co126 <|aI @sr126 <|aI @q3.iffx <|@beq_self_eq_true.{0}) ?_
  refine rPAS hd (aI @Tryd.results67 <|@hm) ?_
  try exact True.intro
end Go.Proofs.YtpocekfifokndaaDoor
namespace Go.Proofs.YtpocekfifokndaaDoor
open Go Go.Ev Go.Pl
set_option maxRecDepth 100000
set_option maxHeartbeats 4000000
theorem P68 (N1 D1 N2 D2 : Nat) (hr1 : isRat N1 D1 = true) (hr2 : isRat N2 D2 = true) : Ans X 68 [.agg [vn N1, vn D1], .agg [vn N2, vn D2]] (.ret (.tup [vi (cmpN (N1 * D2) (N2 * D1)), vi 0])) := by
  refine call_of_X (fn := Tryd.f68) 2 Tryd.func68 rfl (by decide +kernel) rfl ?_ ?_ ?_ ?_
  · rfl
  · exact fun _ => rfl
  · intro v hv; injection hv with hv; subst hv; rfl
  intro s hs hd ho
  have hm : s.m = ⟨.nil, []⟩ := by subst hs; rfl
  have h0 : s.t.get 0 = .agg [vn N1, vn D1] := by subst hs; rfl
  have h1 : s.t.get 1 = .agg [vn N2, vn D2] := by subst hs; rfl
  clear hs
  have q1 := P123 N1 D1
  have q2 := P123 N2 D2
  rw [hr1] at q1
  rw [hr2] at q2
  obtain ⟨b1, b2, b3, b4, b5⟩ := of_decide_eq_true hr1
  obtain ⟨d1, d2, d3, d4, d5⟩ := of_decide_eq_true hr2
  have m1 : N1 * D2 ≤ 1099511627776 * 1048576 := Nat.mul_le_mul (by omega) (by omega)
  have m2 : N2 * D1 ≤ 1099511627776 * 1048576 := Nat.mul_le_mul (by omega) (by omega)
  have e1 : V.int .i64 (wr .i64 ((N1 : Int) * (D2 : Int))) = vn (N1 * D2) := by rw [cast_mul, wr_nat (by omega)]
  have e2 : V.int .i64 (wr .i64 ((N2 : Int) * (D1 : Int))) = vn (N2 * D1) := by rw [cast_mul, wr_nat (by omega)]
  clear b1 b2 b3 b4 b5 d1 d2 d3 d4 d5 m1 m2 hr1 hr2
  generalize N1 * D2 = u at *
  generalize N2 * D1 = v at *
  refine gPAS (aI @h0 <|aI @h1 <|aI @hm <|aI @co123 <|aI @sr123 <|aI @q1.iffx <|@q2.iffx) ?_
  refine cnd (fun h => ?_) (fun h => ?_)
  · simp at h
  clear h
  refine gPAS (aI @h0 <|aI @h1 <|aI @hm <|aI @e1 <|@e2) ?_
  refine cnd (fun h => ?_) (fun h => ?_)
  · have h : u < v := by have h' := of_decide_eq_true h; omega
    refine gPAS @Nat.zero_add ?_
    refine rPAS hd (aI @Tryd.results68 <|@hm) ?_
    try exact True.intro
    rw [cmpN, if_pos h]
  have c1 : ¬ u < v := by have h' := of_decide_eq_false h; omega
  clear h
  refine gPAS @Nat.zero_add ?_
  refine cnd (fun h => ?_) (fun h => ?_)
  · have h : v < u := by have h' := of_decide_eq_true h; omega
    refine gPAS @Nat.zero_add ?_
    refine rPAS hd (aI @Tryd.results68 <|@hm) ?_
    try exact True.intro
    rw [cmpN, if_neg c1, if_pos h]
  have c2 : ¬ v < u := by have h' := of_decide_eq_false h; omega
  clear h
  refine gPAS @Nat.zero_add ?_
  refine rPAS hd (aI @Tryd.results68 <|@hm) ?_
  try exact True.intro
  rw [cmpN, if_neg c1, if_neg c2]
end Go.Proofs.YtpocekfifokndaaDoor
namespace Go.Proofs.YtpocekfifokndaaDoor
open Go Go.Ev Go.Pl
set_option maxRecDepth 100000
set_option maxHeartbeats 4000000
theorem P128 (N1 D1 N2 D2 a b : Nat) (e : Int) (q : Ans X 126 [vn (N1 * D2 + N2 * D1), vn (D1 * D2)] (.ret (.tup [.agg [vn a, vn b], vi e])))
    (e1 : V.int .i64 (wr .i64 (wr .i64 ((N1 : Int) * (D2 : Int)) + wr .i64 ((N2 : Int) * (D1 : Int)))) = vn (N1 * D2 + N2 * D1)) (e2 : V.int .i64 (wr .i64 ((D1 : Int) * (D2 : Int))) = vn (D1 * D2)) (o1 oM : Go.Ev.Rows)
    (hA : (⟨oM, []⟩ : Mem).row ⟨0, 2, 0, 1⟩ = some ⟨1, 76, false, false, [.agg [vn N1, vn D1]]⟩) (hB : (⟨oM, []⟩ : Mem).row ⟨0, 3, 0, 1⟩ = some ⟨1, 76, false, false, [.agg [vn N2, vn D2]]⟩) :
    AnsAt X 128 [.ptr ⟨0, 2, 0, 1⟩ 0 0, .ptr ⟨0, 3, 0, 1⟩ 0 0] [o1, oM] (.ret (.tup [.agg [vn a, vn b], vi e])) := by
  refine ⟨rfl, rfl, fun v hv => ?_, ?_⟩
  · injection hv with hv; subst hv; rfl
  refine runsAt_of (X := X) (fn := Tryd.f128) Tryd.func128 rfl ⟨by decide +kernel, Nat.le_of_ble_eq_true rfl⟩ ?_
  have hd : (enter [V.ptr ⟨0, 2, 0, 1⟩ 0 0, V.ptr ⟨0, 3, 0, 1⟩ 0 0] [o1, oM]).dfs = [] := rfl
  have h0 : (enter [V.ptr ⟨0, 2, 0, 1⟩ 0 0, V.ptr ⟨0, 3, 0, 1⟩ 0 0] [o1, oM]).t.get 0 = .ptr ⟨0, 2, 0, 1⟩ 0 0 := rfl
  have h1 : (enter [V.ptr ⟨0, 2, 0, 1⟩ 0 0, V.ptr ⟨0, 3, 0, 1⟩ 0 0] [o1, oM]).t.get 1 = .ptr ⟨0, 3, 0, 1⟩ 0 0 := rfl
  have hm : (enter [V.ptr ⟨0, 2, 0, 1⟩ 0 0, V.ptr ⟨0, 3, 0, 1⟩ 0 0] [o1, oM]).m = ⟨.nil, [o1, oM]⟩ := rfl
  generalize enter [V.ptr ⟨0, 2, 0, 1⟩ 0 0, V.ptr ⟨0, 3, 0, 1⟩ 0 0] [o1, oM] = s at *
  have hA' : (⟨.nil, [o1, oM]⟩ : Mem).row ⟨0, 2, 0, 1⟩ = some ⟨1, 76, false, false, [.agg [vn N1, vn D1]]⟩ := by rw [row_outer _ _ _ _ (by simp), row_outer _ _ _ _ (by simp), hA]
  have hB' : (⟨.nil, [o1, oM]⟩ : Mem).row ⟨0, 3, 0, 1⟩ = some ⟨1, 76, false, false, [.agg [vn N2, vn D2]]⟩ := by rw [row_outer _ _ _ _ (by simp), row_outer _ _ _ _ (by simp), hB]
  refine gPAS (aI @h0 <|aI @h1 <|aI @hm <|aI @hA' <|aI @hB' <|aI @e1 <|aI @e2 <|aI @co126 <|aI @sr126 <|@q.iffx) ?_
  refine fin_ret (X := X) (fn := Tryd.f128) (vs := [.agg [vn a, vn b], vi e]) hd ?_ rfl rfl
  simp (maxSteps := 2000000) (disch := omega) only [SA, ofValue, ofCell, bin, intBin, un, idx, Go.Ev.builtin, calleeOf, V.isNilS, V.depthOk, depth1, V.ok1, V.isAgg, V.cells, isConst, Nat.reduceBEq, Nat.reduceEqDiff, ↓reduceIte, Nat.reduceLeDiff, Nat.reduceAdd, Nat.reduceMul, Nat.reduceSub, Nat.reduceLT, Int.reduceAdd, Int.reduceSub, Int.reduceMul, Int.reduceLT, Int.reduceLE, Int.reduceToNat, Int.reduceNeg, reduceIte, reduceCtorEq, SPx, SAx, Tryd.results128, resVars, resVar]
theorem P127 (N1 D1 N2 D2 : Nat) (hr1 : isRat N1 D1 = true) (hr2 : isRat N2 D2 = true) (a b : Nat) (e : Int) (g : FuncId) (cap : List V) (oM : Go.Ev.Rows) (hcap : cap.any V.loose = true) (hco : callOk Tryd.prog g = true) (hsr : scalarRes Tryd.prog g = false)
    (hg : ∀ own, AnsAt X g cap [own, oM] (.ret (.tup [.agg [vn a, vn b], vi e]))) :
    AnsAt X 127 [.agg [vn N1, vn D1], .agg [vn N2, vn D2], .fn g [] cap] [oM] (.ret (.tup [.agg [vn a, vn b], vi e])) := by
  have hne : cap.isEmpty = false := by cases cap with | nil => simp at hcap | cons _ _ => rfl
  refine ⟨rfl, by simp [V.refs, V.loose, hne], fun v hv => ?_, ?_⟩
  · injection hv with hv; subst hv; rfl
  refine runsAt_of (X := X) (fn := Tryd.f127) Tryd.func127 rfl ⟨by decide +kernel, Nat.le_of_ble_eq_true rfl⟩ ?_
  have hd : (enter [.agg [vn N1, vn D1], .agg [vn N2, vn D2], .fn g [] cap] [oM]).dfs = [] := rfl
  have h0 : (enter [.agg [vn N1, vn D1], .agg [vn N2, vn D2], .fn g [] cap] [oM]).t.get 0 = .agg [vn N1, vn D1] := rfl
  have h1 : (enter [.agg [vn N1, vn D1], .agg [vn N2, vn D2], .fn g [] cap] [oM]).t.get 1 = .agg [vn N2, vn D2] := rfl
  have h2 : (enter [.agg [vn N1, vn D1], .agg [vn N2, vn D2], .fn g [] cap] [oM]).t.get 2 = .fn g [] cap := rfl
  have hm : (enter [.agg [vn N1, vn D1], .agg [vn N2, vn D2], .fn g [] cap] [oM]).m = ⟨.nil, [oM]⟩ := rfl
  generalize enter [.agg [vn N1, vn D1], .agg [vn N2, vn D2], .fn g [] cap] [oM] = s at *
  have q1 := P123 N1 D1
  have q2 := P123 N2 D2
  rw [hr1] at q1
  rw [hr2] at q2
  refine gPAS (aI @h0 <|aI @h1 <|aI @hm <|aI @co123 <|aI @sr123 <|aI @q1.iffx <|@q2.iffx) ?_
  refine cnd (fun h => ?_) (fun h => ?_)
  · simp at h
  clear h
  have key : ∀ (m : Mem) (dst : Nat) (K KP : V → Mem → Prop), m.out = [oM] → CallQ X g cap m dst K KP = K (.tup [.agg [vn a, vn b], vi e]) m := by
    intro m dst K KP hmo
    have hh := hg m.own
    rw [← hmo] at hh
    exact propext hh.iff
  refine g0 @Nat.zero_add ?_
  with_reducible refine W_region_k ?_
  intro K hK
  simp (maxSteps := 2000000) (disch := omega) only [SA, ofValue, ofCell, bin, intBin, un, idx, Go.Ev.builtin, calleeOf, V.isNilS, V.depthOk, depth1, V.ok1, V.isAgg, V.cells, isConst, Nat.reduceBEq, Nat.reduceEqDiff, ↓reduceIte, Nat.reduceLeDiff, Nat.reduceAdd, Nat.reduceMul, Nat.reduceSub, Nat.reduceLT, Int.reduceAdd, Int.reduceSub, Int.reduceMul, Int.reduceLT, Int.reduceLE, Int.reduceToNat, Int.reduceNeg, reduceIte, reduceCtorEq, SPx, SAx, h2, hm, hd, hco, hsr]
  rw [key _ _ _ _ rfl]
  simp (maxSteps := 2000000) (disch := omega) only [SA, ofValue, ofCell, bin, intBin, un, idx, Go.Ev.builtin, calleeOf, V.isNilS, V.depthOk, depth1, V.ok1, V.isAgg, V.cells, isConst, Nat.reduceBEq, Nat.reduceEqDiff, ↓reduceIte, Nat.reduceLeDiff, Nat.reduceAdd, Nat.reduceMul, Nat.reduceSub, Nat.reduceLT, Int.reduceAdd, Int.reduceSub, Int.reduceMul, Int.reduceLT, Int.reduceLE, Int.reduceToNat, Int.reduceNeg, reduceIte, reduceCtorEq, SPx, SAx, SSx, appendTo, elemsOf]
  refine hK _ _ ?_
  clear hK K
  refine gP @Nat.zero_add ?_
  refine fin_ret (X := X) (fn := Tryd.f127) (vs := [.agg [vn a, vn b], vi e]) (by first | exact hd | rfl) ?_ rfl rfl
  simp (maxSteps := 2000000) (disch := omega) only [SA, ofValue, ofCell, bin, intBin, un, idx, Go.Ev.builtin, calleeOf, V.isNilS, V.depthOk, depth1, V.ok1, V.isAgg, V.cells, isConst, Nat.reduceBEq, Nat.reduceEqDiff, ↓reduceIte, Nat.reduceLeDiff, Nat.reduceAdd, Nat.reduceMul, Nat.reduceSub, Nat.reduceLT, Int.reduceAdd, Int.reduceSub, Int.reduceMul, Int.reduceLT, Int.reduceLE, Int.reduceToNat, Int.reduceNeg, reduceIte, reduceCtorEq, SPx, SAx, Tryd.results127, resVars, resVar]
theorem P69 (N1 D1 N2 D2 : Nat) (hr1 : isRat N1 D1 = true) (hr2 : isRat N2 D2 = true) : Ans X 69 [.agg [vn N1, vn D1], .agg [vn N2, vn D2]]
    (.ret (.tup [.agg [vn (ratZ (N1 * D2 + N2 * D1) (D1 * D2)).1, vn (ratZ (N1 * D2 + N2 * D1) (D1 * D2)).2.1], vi (ratZ (N1 * D2 + N2 * D1) (D1 * D2)).2.2])) := by
  refine call_of_X (fn := Tryd.f69) 2 Tryd.func69 rfl (by decide +kernel) rfl ?_ ?_ ?_ ?_
  · rfl
  · intro h; exact absurd h (by rw [sr69]; decide)
  · intro v hv; injection hv with hv; subst hv; rfl
  intro s hs hd ho
  have hm : s.m = ⟨.nil, []⟩ := by subst hs; rfl
  have h0 : s.t.get 0 = .agg [vn N1, vn D1] := by subst hs; rfl
  have h1 : s.t.get 1 = .agg [vn N2, vn D2] := by subst hs; rfl
  clear hs
  obtain ⟨b1, b2, b3, b4, b5⟩ := of_decide_eq_true hr1
  obtain ⟨d1, d2, d3, d4, d5⟩ := of_decide_eq_true hr2
  have m1 : N1 * D2 ≤ 1099511627776 * 1048576 := Nat.mul_le_mul (by omega) (by omega)
  have m2 : N2 * D1 ≤ 1099511627776 * 1048576 := Nat.mul_le_mul (by omega) (by omega)
  have m3 : D1 * D2 ≤ 1048576 * 1048576 := Nat.mul_le_mul (by omega) (by omega)
  have m4 : 0 < D1 * D2 := Nat.mul_pos (by omega) (by omega)
  have e1 : V.int .i64 (wr .i64 (wr .i64 ((N1 : Int) * (D2 : Int)) + wr .i64 ((N2 : Int) * (D1 : Int)))) = vn (N1 * D2 + N2 * D1) := by
    rw [cast_mul, cast_mul, wr_nat (by omega), wr_nat (by omega), cast_add, wr_nat (by omega)]
  have e2 : V.int .i64 (wr .i64 ((D1 : Int) * (D2 : Int))) = vn (D1 * D2) := by rw [cast_mul, wr_nat (by omega)]
  have q := P126 (N1 * D2 + N2 * D1) (D1 * D2) m4 (by omega) (by omega)
  generalize (ratZ (N1 * D2 + N2 * D1) (D1 * D2)) = z at *
  have key : ∀ (m : Mem) (dst : Nat) (K KP : V → Mem → Prop), m.out = [] → m.row ⟨0, 2, 0, 1⟩ = some ⟨1, 76, false, false, [.agg [vn N1, vn D1]]⟩ → m.row ⟨0, 3, 0, 1⟩ = some ⟨1, 76, false, false, [.agg [vn N2, vn D2]]⟩ →
      (CallQ X 127 [.agg [vn N1, vn D1], .agg [vn N2, vn D2], .fn 128 [] [.ptr ⟨0, 2, 0, 1⟩ 0 0, .ptr ⟨0, 3, 0, 1⟩ 0 0]] m dst K KP ↔ K (.tup [.agg [vn z.1, vn z.2.1], vi z.2.2]) m) := by
    rintro ⟨own, out⟩ dst K KP ho r2 r3
    dsimp only at ho
    subst ho
    exact AnsAt.iff (m := ⟨own, []⟩) (P127 N1 D1 N2 D2 hr1 hr2 _ _ _ 128 _ own rfl co128 sr128 (fun o1 => P128 N1 D1 N2 D2 _ _ _ q e1 e2 o1 own r2 r3))
  clear b1 b2 b3 b4 b5 d1 d2 d3 d4 d5 m1 m2 m3 m4 e1 e2 q hr1 hr2
  refine g0 @Nat.zero_add ?_
  with_reducible refine W_region_k ?_
  intro K hK
  simp (maxSteps := 2000000) (disch := omega) only [SA, ofValue, ofCell, bin, intBin, un, idx, Go.Ev.builtin, calleeOf, V.isNilS, V.depthOk, depth1, V.ok1, V.isAgg, V.cells, isConst, Nat.reduceBEq, Nat.reduceEqDiff, ↓reduceIte, Nat.reduceLeDiff, Nat.reduceAdd, Nat.reduceMul, Nat.reduceSub, Nat.reduceLT, Int.reduceAdd, Int.reduceSub, Int.reduceMul, Int.reduceLT, Int.reduceLE, Int.reduceToNat, Int.reduceNeg, reduceIte, reduceCtorEq, SPx, SAx, h0, h1, hm]
  refine hK _ _ ?_
  clear hK K
  refine g0 @Nat.zero_add ?_
  with_reducible refine W_region_k ?_
  intro K hK
  simp (maxSteps := 2000000) (disch := omega) only [SA, ofValue, ofCell, bin, intBin, un, idx, Go.Ev.builtin, calleeOf, V.isNilS, V.depthOk, depth1, V.ok1, V.isAgg, V.cells, isConst, Nat.reduceBEq, Nat.reduceEqDiff, ↓reduceIte, Nat.reduceLeDiff, Nat.reduceAdd, Nat.reduceMul, Nat.reduceSub, Nat.reduceLT, Int.reduceAdd, Int.reduceSub, Int.reduceMul, Int.reduceLT, Int.reduceLE, Int.reduceToNat, Int.reduceNeg, reduceIte, reduceCtorEq, SPx, SAx, hm, co127, sr127]
  rw [key _ _ _ _ rfl (by simp [Mem.row_new, Mem.row_setW, Mem.new_out, Mem.gen_new, Mem.gen_nil, Mem.set_out]) (by simp [Mem.row_new, Mem.row_setW, Mem.new_out, Mem.gen_new, Mem.gen_nil, Mem.set_out])]
  simp (maxSteps := 2000000) (disch := omega) only [SA, ofValue, ofCell, bin, intBin, un, idx, Go.Ev.builtin, calleeOf, V.isNilS, V.depthOk, depth1, V.ok1, V.isAgg, V.cells, isConst, Nat.reduceBEq, Nat.reduceEqDiff, ↓reduceIte, Nat.reduceLeDiff, Nat.reduceAdd, Nat.reduceMul, Nat.reduceSub, Nat.reduceLT, Int.reduceAdd, Int.reduceSub, Int.reduceMul, Int.reduceLT, Int.reduceLE, Int.reduceToNat, Int.reduceNeg, reduceIte, reduceCtorEq, SPx, SAx]
  refine hK _ _ ?_
  clear hK K
  refine gP @Nat.zero_add ?_
  refine rPAS hd @Tryd.results69 ?_
  try exact True.intro
end Go.Proofs.YtpocekfifokndaaDoor
namespace Go.Proofs.YtpocekfifokndaaDoor
open Go Go.Ev Go.Pl
set_option maxRecDepth 100000
set_option maxHeartbeats 4000000
theorem cmpN_k (a b k : Nat) (hk : 0 < k) : cmpN (a * k) (b * k) = cmpN a b := by
  unfold cmpN
  by_cases c : a < b
  · rw [if_pos c, if_pos (Nat.mul_lt_mul_of_pos_right c hk)]
  · have h1 : ¬ a * k < b * k := fun e => c (Nat.lt_of_mul_lt_mul_right e)
    rw [if_neg c, if_neg h1]
    by_cases c2 : b < a
    · rw [if_pos c2, if_pos (Nat.mul_lt_mul_of_pos_right c2 hk)]
    · rw [if_neg c2, if_neg (fun e => c2 (Nat.lt_of_mul_lt_mul_right e))]
theorem u_le {D U : Nat} (h : D * U = 216000) : U ≤ 216000 := by
  have : 0 < D := Nat.pos_of_ne_zero fun e => by subst e; omega
  rw [← h]; exact Nat.le_mul_of_pos_left _ this
theorem isRat_of {N D : Nat} (h1 : 1 ≤ D) (h2 : D ≤ 1048576) (h3 : N ≤ 1099511627776) (h4 : Nat.gcd N D = 1) : isRat N D = true := by
  unfold isRat
  rw [decide_eq_true_eq]
  exact ⟨by omega, by omega, by omega, by omega, h4⟩
theorem sum_dvd {N1 D1 N2 D2 : Nat} (h1 : D1 ∣ 5400) (h2 : D2 ∣ 5400) (hd : 1 ≤ D1 * D2) : D1 * D2 / Nat.gcd (N1 * D2 + N2 * D1) (D1 * D2) ∣ 5400 := by
  obtain ⟨c1, h1⟩ := h1
  obtain ⟨c2, h2⟩ := h2
  have hq : (N1 * D2 + N2 * D1) * 5400 = D1 * D2 * (c1 * N1 + c2 * N2) := by
    rw [Nat.add_mul, Nat.mul_add]
    congr 1
    · rw [h1]; simp only [Nat.mul_assoc, Nat.mul_left_comm, Nat.mul_comm]
    · rw [h2]; simp only [Nat.mul_assoc, Nat.mul_left_comm, Nat.mul_comm]
  generalize N1 * D2 + N2 * D1 = n at *
  generalize D1 * D2 = d at *
  have hg0 : 0 < Nat.gcd n d := Nat.gcd_pos_of_pos_right _ hd
  have hc := Nat.coprime_div_gcd_div_gcd hg0
  have a := Nat.div_mul_cancel (Nat.gcd_dvd_left n d)
  have b := Nat.div_mul_cancel (Nat.gcd_dvd_right n d)
  generalize Nat.gcd n d = g at *
  generalize n / g = x at *
  generalize d / g = y at *
  refine hc.symm.dvd_of_dvd_mul_left (k := y) (m := x) (n := 5400) ⟨c1 * N1 + c2 * N2, Nat.eq_of_mul_eq_mul_right hg0 ?_⟩
  calc x * 5400 * g = x * g * 5400 := Nat.mul_right_comm _ _ _
    _ = n * 5400 := by rw [a]
    _ = d * (c1 * N1 + c2 * N2) := hq
    _ = y * g * (c1 * N1 + c2 * N2) := by rw [b]
    _ = y * (c1 * N1 + c2 * N2) * g := Nat.mul_right_comm _ _ _
theorem P19 (x0 x1 y0 y1 : Int) : Ans X 19 [.agg [vi x0, vi x1], .agg [vi y0, vi y1]] (.ret (.bool true)) := by
  refine call_of_X (fn := Tryd.f19) 2 Tryd.func19 rfl (by decide +kernel) rfl ?_ ?_ ?_ ?_
  · rfl
  · exact fun _ => rfl
  · intro v hv; injection hv with hv; subst hv; rfl
  intro s hs hd ho
  have hm : s.m = ⟨.nil, []⟩ := by subst hs; rfl
  have h0 : s.t.get 0 = .agg [vi x0, vi x1] := by subst hs; rfl
  have h1 : s.t.get 1 = .agg [vi y0, vi y1] := by subst hs; rfl
  clear hs
  obtain ⟨N1, D1, U1, n1, u1, g1, d1, qa⟩ := P67 x0 x1
  obtain ⟨N2, D2, U2, n2, u2, g2, d2, qb⟩ := P67 y0 y1
  have l1 : D1 ≤ 5400 := Nat.le_of_dvd (by decide) d1
  have l2 : D2 ≤ 5400 := Nat.le_of_dvd (by decide) d2
  have k1 := u_le u1
  have k2 := u_le u2
  have p1 : 0 < D1 := Nat.pos_of_ne_zero fun e => by subst e; omega
  have p2 : 0 < D2 := Nat.pos_of_ne_zero fun e => by subst e; omega
  have hr1 := isRat_of (N := N1) p1 (by omega) (by omega) g1
  have hr2 := isRat_of (N := N2) p2 (by omega) (by omega) g2
  have m1 : N1 * U1 ≤ 1000000 * 216000 := Nat.mul_le_mul n1 k1
  have m2 : N2 * U2 ≤ 1000000 * 216000 := Nat.mul_le_mul n2 k2
  have s1 : N1 * D2 ≤ 1000000 * 5400 := Nat.mul_le_mul n1 l2
  have s2 : N2 * D1 ≤ 1000000 * 5400 := Nat.mul_le_mul n2 l1
  have s3 : 0 < D1 * D2 := Nat.mul_pos p1 p2
  have e1 : N1 * U1 * (D1 * D2) = N1 * D2 * 216000 := by
    rw [← u1]; simp only [Nat.mul_assoc, Nat.mul_left_comm, Nat.mul_comm]
  have e2 : N2 * U2 * (D1 * D2) = N2 * D1 * 216000 := by
    rw [← u2]; simp only [Nat.mul_assoc, Nat.mul_left_comm, Nat.mul_comm]
  have q63a := Q63 u1 g1 (by omega)
  have q63b := Q63 u2 g2 (by omega)
  have q61a := Q61 (N := N1) (D := D1) (M := N1 * U1) p1 (by omega) (by rw [Nat.mul_assoc, Nat.mul_comm U1, u1]) g1 (by omega) (Nat.lt_of_le_of_lt m1 (by decide))
  have q68 := P68 N1 D1 N2 D2 hr1 hr2
  have hcmp : cmpN (N1 * D2) (N2 * D1) = cmpN (N1 * U1) (N2 * U2) := by
    rw [← cmpN_k (N1 * D2) _ 216000 (by decide), ← e1, ← e2, cmpN_k _ _ _ s3]
  rw [hcmp] at q68
  have q57 := Q57c (M1 := N1 * U1) (M2 := N2 * U2) (Nat.lt_of_le_of_lt m1 (by decide)) (Nat.lt_of_le_of_lt m2 (by decide))
  have q69 := P69 N1 D1 N2 D2 hr1 hr2
  obtain ⟨S, T, U3, hz, hS, hTU, hgST, hcross, hT5⟩ := ratZ_spec (n := N1 * D2 + N2 * D1) (d := D1 * D2) (by omega) s3 ⟨_, rfl, sum_dvd d1 d2 s3⟩
  rw [hz] at q69
  dsimp only at q69
  have lT : T ≤ 5400 := Nat.le_of_dvd (by decide) hT5
  have pT : 0 < T := Nat.pos_of_ne_zero fun e => by subst e; omega
  have q55 := Q55c (M1 := N1 * U1) (M2 := N2 * U2) (Nat.lt_of_le_of_lt m1 (by decide)) (Nat.lt_of_le_of_lt m2 (by decide))
  have q61b := Q61 (N := S) (D := T) (M := N1 * U1 + N2 * U2) pT (by omega) (by
    refine Nat.eq_of_mul_eq_mul_right s3 ?_
    calc (N1 * U1 + N2 * U2) * T * (D1 * D2) = (N1 * U1 * (D1 * D2) + N2 * U2 * (D1 * D2)) * T := by rw [Nat.mul_right_comm, Nat.add_mul]
      _ = (N1 * D2 + N2 * D1) * 216000 * T := by rw [e1, e2, ← Nat.add_mul]
      _ = (N1 * D2 + N2 * D1) * T * 216000 := Nat.mul_right_comm _ _ _
      _ = S * (D1 * D2) * 216000 := by rw [hcross]
      _ = S * 216000 * (D1 * D2) := Nat.mul_right_comm _ _ _) hgST (by omega) (by omega)
  clear hcross hgST hTU hS hz hcmp e1 e2 s1 s2 s3 m1 m2 hr1 hr2 p1 p2 k1 k2 l1 l2 d1 d2 g1 g2 u1 u2 n1 n2 lT pT hT5
  unfold plcV at *
  generalize pl (N1 * U1 + N2 * U2) = pc at *
  generalize cmpN (N1 * U1) (N2 * U2) = c at *
  generalize pl (N1 * U1) = pa at *
  generalize pl (N2 * U2) = pb at *
  obtain ⟨A1, A2⟩ := pa
  obtain ⟨B1, B2⟩ := pb
  obtain ⟨C1, C2⟩ := pc
  dsimp only at q55 q57 q61a q61b q63a q63b
  refine gPAS (aI @h0 <|aI @h1 <|aI @hm <|aI @co67 <|aI @sr67 <|aI @qa.iffx <|@qb.iffx) ?_
  refine cnd (fun h => ?_) (fun h => ?_)
  · simp at h
  clear h
  refine gPAS (aI @hm <|aI @co63 <|aI @sr63 <|aI @q63a.iffx <|aI @q63b.iffx <|aI @co61 <|aI @sr61 <|aI @q61a.iffx <|aI @eqT76 <|aI @eqOk76 <|@bne_self_eq_false.{0}) ?_
  refine cnd (fun h => ?_) (fun h => ?_)
  · simp at h
  clear h
  refine gPAS (aI @hm <|aI @co68 <|aI @sr68 <|aI @q68.iffx <|aI @co57 <|aI @sr57 <|aI @q57.iffx <|@bne_self_eq_false.{0}) ?_
  refine cnd (fun h => ?_) (fun h => ?_)
  · simp at h
  clear h
  refine gPAS (aI @hm <|aI @rep2 <|aI @cut2 <|aI @co69 <|aI @sr69 <|aI @q69.iffx <|aI @co55 <|aI @sr55 <|aI @q55.iffx <|aI @co61 <|aI @sr61 <|aI @q61b.iffx <|aI @eqT76 <|aI @eqOk76 <|aI @beq_self_eq_true.{0} <|aI @co26 <|aI @sr26 <|@P26.iffx) ?_
  refine rPAS hd @Tryd.results19 ?_
  try exact True.intro
end Go.Proofs.YtpocekfifokndaaDoor
namespace Go.Proofs.YtpocekfifokndaaDoor
open Go Go.Ev Go.Pl
theorem c76' : Tryd.prog.cellsOf 76 = 2 := by kernel_rfl
theorem c3' : Tryd.prog.cellsOf 3 = 1 := by kernel_rfl
theorem zero_named : Tryd.prog.globalNamed "bulla/metro.zero" = some 0 := by kernel_rfl
theorem zero_type : (Tryd.prog.globals[0]?).map (·.type) = some 76 := by kernel_rfl
theorem two_of {α : Type} : ∀ {l : List α}, l.length = 2 → ∃ a b, l = [a, b]
  | [a, b], _ => ⟨a, b, rfl⟩
theorem zero_var {W : World} (h : laidMetH Tryd.prog Rows.placeRatioBackRow.laid W) : W.var? Tryd.prog "bulla/metro.zero" = some #[.int .i64 0, .int .i64 1] := by
  have h' : laidMet Tryd.prog (("bulla/metro.zero", Rows.laid_bulla_metro_zero) :: [("unicode/utf8.acceptRanges", Rows.laid_unicode_utf8_acceptRanges), ("unicode/utf8.first", Rows.laid_unicode_utf8_first)]) W := h
  obtain ⟨ps, ⟨g', t', cs, fuel, p, q, hg', ht', hvar, hd, _, _⟩, _⟩ := h'
  obtain rfl : t' = 76 := by
    obtain rfl := Option.some.inj (zero_named.symm.trans hg')
    exact Option.some.inj (ht'.symm.trans zero_type)
  obtain ⟨y0, y1, n, hx, hl, ha, hb⟩ := ChangeShapes.trod_struct2 Tryd.underlying76 hd
  obtain ⟨z0, c0, rfl, _⟩ := DataW.trod_int Tryd.underlying3 ha
  obtain ⟨z1, c1, rfl, _⟩ := DataW.trod_int Tryd.underlying3 hb
  rw [c76'] at hl
  simp only [c3'] at c0 c1
  have hz := congrArg Prod.fst hx
  simp only [Rows.laid_bulla_metro_zero, DataW.agg.injEq, List.cons.injEq, DataW.lit.injEq, Lit.int.injEq, true_and, and_true] at hz
  obtain ⟨rfl, rfl⟩ := hz
  rw [hvar]
  obtain ⟨l⟩ := cs
  have hl : l.length = 2 := hl
  obtain ⟨a, b, rfl⟩ := two_of hl
  have c0 : [a] = [Value.int .i64 0] := c0
  have c1 : [b] = [Value.int .i64 1] := c1
  injection c0 with c0
  injection c1 with c1
  rw [c0, c1]
theorem zero_glob {W : World} (h : laidMetH Tryd.prog Rows.placeRatioBackRow.laid W) : ∀ g v ty, X.glob g = some (v, ty) → ∃ xs : Nat → Value, ∀ (c : Nat) (u : V), v.cells[c]? = some u →
    W.cell? ⟨g, c, none⟩ = some (xs c) ∧ allI W g c ∧ (xs c).oneCell' = true ∧ RelP (allI W) W u (xs c) := by
  intro g v ty hg
  have hv := zero_var h
  have hg' : (if g = 0 then some ((.agg [.int .i64 0, .int .i64 1] : V), 76) else none) = some (v, ty) := hg
  by_cases c : g = 0
  · subst c
    rw [if_pos rfl] at hg'
    injection hg' with hg'
    injection hg' with e1 e2
    subst e1
    refine ⟨fun c => .int .i64 (if c = 0 then 0 else 1), fun c u hu => ?_⟩
    have hc := World.var?_cell zero_named hv c
    match c, hu with
    | 0, hu =>
      obtain rfl : V.int .i64 0 = u := Option.some.inj hu
      have hc : W.cell? ⟨0, 0, none⟩ = some (.int .i64 0) := hc
      exact ⟨hc, (cell?_spot hc).2, rfl, .int _ _⟩
    | 1, hu =>
      obtain rfl : V.int .i64 1 = u := Option.some.inj hu
      have hc : W.cell? ⟨0, 1, none⟩ = some (.int .i64 1) := hc
      exact ⟨hc, (cell?_spot hc).2, rfl, .int _ _⟩
    | c + 2, hu => exact absurd hu (by simp [V.cells])
  · rw [if_neg c] at hg'
    exact absurd hg' (by simp)
end Go.Proofs.YtpocekfifokndaaDoor
namespace Go.Proofs.YtpocekfifokndaaDoor
open Go Go.Ev Go.Pl
set_option maxRecDepth 100000
theorem typ76 {B n : Nat} {u : V} (h : Typ X.P B (n + 2) 76 u) : ∃ a b : Int, u = .agg [vi a, vi b] := by
  rw [Typ] at h
  simp only [X_P, Tryd.underlying76] at h
  obtain ⟨us, rfl, hl, hu⟩ := h
  match us, hl with
  | [x, y], _ =>
    obtain ⟨a, rfl, _⟩ := typ3 (hu 0 _ x rfl rfl)
    obtain ⟨b, rfl, _⟩ := typ3 (hu 1 _ y rfl rfl)
    exact ⟨a, b, rfl⟩
theorem typ84 {B n : Nat} {u : V} (h : Typ X.P B (n + 2) 84 u) : ∃ a b : Int, u = .agg [vi a, vi b] := by
  rw [Typ] at h
  simp only [X_P, Tryd.underlying84] at h
  obtain ⟨us, rfl, hl, hu⟩ := h
  match us, hl with
  | [x, y], _ =>
    obtain ⟨a, rfl, _⟩ := typ3 (hu x (by simp))
    obtain ⟨b, rfl, _⟩ := typ3 (hu y (by simp))
    exact ⟨a, b, rfl⟩
end Go.Proofs.YtpocekfifokndaaDoor
