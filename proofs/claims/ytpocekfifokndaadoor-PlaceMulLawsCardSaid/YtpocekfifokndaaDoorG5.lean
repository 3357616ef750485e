/- Part 5 of the proof: an evaluator of the program, proved sound against the model, and what the functions of the program compute. No condition but those each theorem states. -/
import Derived.Test.YtpocekfifokndaaDoorG4
import Derived.Laws.Tables
import Derived.Great.BuildSlice
import Derived.Laws.MakeOwn
import Derived.Deep.AppendSrc
import Derived.Laws.AppendOwn
import Derived.Deep.Upon
set_option linter.unusedSimpArgs false
set_option linter.unusedVariables false
namespace Go.Ev
section
variable {P : Program} {I : Imm} {w : World} {φ : Phi} {m : Mem}
theorem step_rewrite {w' : World} {φ' : Phi} {r : Ref} {row row' : Row} {l l' : Loc} (h : MemOk P I w φ m) (hm : m.row r = some row) (hl : φ r = some (some l))
    (hcell : ∀ b o x, I b o → w.cell? ⟨b, o, none⟩ = some x → w'.cell? ⟨b, o, none⟩ = some x) (hother : ∀ b, b ≠ l.b → w'.heap[b]? = w.heap[b]?)
    (hsz : w'.heap.size = w.heap.size) (hos : w'.os = w.os) (htape : w'.tape = w.tape) (hout : w'.output = w.output) (hpl : PlainAt w' l.b)
    (hlb : l'.b = l.b) (hφ' : (row'.g = row.g ∧ φ' = φ ∧ l' = l) ∨ (row'.g = row.g + 1 ∧ φ' = φ.put { r with g := row'.g } (some l')))
    (hrow : RowOk P I w' (φ'.upto r.d) row' (some l')) : MemOk P I w' φ' (m.set r.d r.s r.i row') ∧ Ext I w φ I w' φ' := by
  obtain ⟨rows, h1, h2, h3⟩ := (Mem.row_eq _ _ _).1 hm
  have hg0 := h.zero r (by rw [hl]; simp)
  have hput : φ { r with g := row.g + 1 } = none := by
    cases hr : φ { r with g := row.g + 1 } with
    | none => rfl
    | some l =>
      obtain ⟨rows', k1, k2⟩ := h.gens { r with g := row.g + 1 } (by rw [hr]; simp)
      simp only at k1 k2
      rw [h1] at k1
      have := Option.some.inj k1
      subst this
      rw [h2] at k2
      omega
  have hφ : ∀ r l, φ r = some l → φ' r = some l := by
    rcases hφ' with ⟨_, rfl, _⟩ | ⟨e, rfl⟩
    · exact fun _ _ h => h
    · rw [e]; exact Phi.put_mono hput _
  have hext : Ext I w φ I w' φ' := by
    refine ⟨fun _ _ h => h, hcell, hφ, by omega, hos, htape, hout, ?_, ?_, fun _ _ h => .inl h, ?_, fun ho b o hi => by rw [hsz]; exact ho b o hi⟩
    · intro b hb hn
      exact hother b (fun e => hn r l hl e.symm)
    · intro r' l2 hl'
      left
      rcases hφ' with ⟨_, rfl, _⟩ | ⟨e, rfl⟩
      · exact ⟨r', l2, hl', rfl, rfl⟩
      · unfold Phi.put at hl'
        split at hl'
        · rename_i er; simp at hl'; subst hl'; exact ⟨r, l, hl, hlb.symm, by rw [er]⟩
        · exact ⟨r', l2, hl', rfl, rfl⟩
    · intro b hb
      by_cases e : b = l.b
      · rw [e]; exact hpl
      · intro x hx; rw [hother b e] at hx; exact hb x hx
  refine ⟨?_, hext⟩
  have hgle : (rows.get r.s r.i).g ≤ row'.g := by rw [h2]; rcases hφ' with ⟨e, _⟩ | ⟨e, _⟩ <;> omega
  have hsame : ∀ r' l0, ¬ (r'.d = r.d ∧ r'.s = r.s ∧ r'.i = r.i) → φ r' = some (some l0) → l0.b ≠ l.b := by
    intro r' l0 hn hl0
    exact h.dis r' r l0 l hl0 hl hn
  refine h.replace (rows := rows) (l' := some l') h1 hgle (by rcases hφ' with ⟨e, _⟩ | ⟨e, _⟩ <;> omega) hφ ?_ ?_ hrow ?_ ?_ (by omega) ?_
  · intro r' hne
    rcases hφ' with ⟨_, rfl, _⟩ | ⟨e, rfl⟩
    · exact .inl hne
    · unfold Phi.put at hne
      split at hne
      · rename_i e'; right; rw [e']
      · exact .inl hne
  · rcases hφ' with ⟨e, rfl, rfl⟩ | ⟨e, rfl⟩
    · have : (⟨r.d, r.s, r.i, row'.g⟩ : Ref) = r := by rw [e, h3]
      rw [this]; exact hl
    · exact Phi.put_same _ _ _
  · intro r' row0 l0 hm' hg' hn hl0 hok
    refine hok.keep (fun _ _ h => h) hcell (Phi.upto_mono r'.d hφ) ?_ (fun _ _ _ _ h => h)
    intro loc e
    exact hother _ (hsame r' loc hn (by rw [hl0, e]))
  · intro r' l0 l1 hn hl0 e
    simp only [Option.some.injEq] at e
    subst e
    rw [hlb]; exact hsame r' l0 hn hl0
  · intro l1 e
    simp only [Option.some.injEq] at e
    subst e
    rw [hsz, hlb]; exact h.size r l hl
theorem setCells_ne (b : Nat) : ∀ (vs : List Value) (o : Nat) (w : World) (b' : Nat), b' ≠ b → (w.setCells b o vs).heap[b']? = w.heap[b']?
  | [], _, _, _, _ => rfl
  | v :: r, o, w, b', h => by
    rw [World.setCells, setCells_ne b r (o + 1) _ b' h]
    simp only [World.setCell, Array.getElem?_modify]
    rw [if_neg (fun e => h e.symm)]
theorem setCells_same (b : Nat) : ∀ (vs : List Value) (o : Nat) (w : World) (cs : Array Value) (t : TypeId) (fr : Nat × Nat), w.heap[b]? = some (.cells cs t fr) →
    ∃ cs', (w.setCells b o vs).heap[b]? = some (.cells cs' t fr) ∧ cs'.size = cs.size
  | [], _, _, cs, t, fr, h => ⟨cs, h, rfl⟩
  | v :: r, o, w, cs, t, fr, h => by
    rw [World.setCells]
    have h' : (w.setCell ⟨b, o, none⟩ v).heap[b]? = some (.cells (cs.setIfInBounds o v) t fr) := by
      simp only [World.setCell, Array.getElem?_modify]
      rw [if_pos trivial, h]
      simp
    obtain ⟨cs', h1, h2⟩ := setCells_same b r (o + 1) _ _ t fr h'
    exact ⟨cs', h1, by rw [h2]; simp⟩
theorem setCells_size (b : Nat) : ∀ (vs : List Value) (o : Nat) (w : World), (w.setCells b o vs).heap.size = w.heap.size
  | [], _, _ => rfl
  | v :: r, o, w => by rw [World.setCells, setCells_size b r]; simp
theorem setCells_os (b : Nat) : ∀ (vs : List Value) (o : Nat) (w : World), (w.setCells b o vs).os = w.os ∧ (w.setCells b o vs).tape = w.tape ∧ (w.setCells b o vs).output = w.output
  | [], _, _ => ⟨rfl, rfl, rfl⟩
  | v :: r, o, w => by rw [World.setCells]; exact setCells_os b r (o + 1) _
theorem cell_of_heap {w : World} {b : Nat} {cs : Array Value} {t : TypeId} {fr : Nat × Nat} (h : w.heap[b]? = some (.cells cs t fr)) (o : Nat) : w.cell? ⟨b, o, none⟩ = cs[o]? := by
  simp [World.cell?, h]
theorem frozen_of_heap {w : World} {b : Nat} {cs : Array Value} {t : TypeId} (h : w.heap[b]? = some (.cells cs t (0, 0))) (o : Nat) : w.frozen? ⟨b, o, none⟩ = false := by
  simp [World.frozen?, h]
theorem run_write {l : Loc} {row : Row} (hok : RowOk P I w φ row (some l)) (o : Nat) (xs : List Value) (ho : o + xs.length ≤ l.base + l.cap * l.z) (h1 : ∀ x ∈ xs, x.oneCell' = true) :
    (storeCells ⟨l.b, o, none⟩ xs).run P w = .ok () (w.setCells l.b o xs) := by
  obtain ⟨_, _, _, ⟨cs, t, hh, hsz⟩, _⟩ := hok
  have := run_storeCells_cells (P := P) l.b o xs 0 w (fun j hj => by
    rw [cell_of_heap hh]; simp; omega) (fun j hj => frozen_of_heap hh _) h1
  simpa using this
def ImmRow (I : Imm) (l : Loc) (n : Nat) : Imm := fun b o => I b o ∨ (b = l.b ∧ l.base ≤ o ∧ o < l.base + n * l.z)
def Covers (m : Mem) (φ : Phi) (I' : Imm) (r : Ref) : Prop := ∀ row l, m.row r = some row → row.arr = true → φ r = some (some l) → ∀ o, l.base ≤ o → o < l.base + row.es.length * l.z → I' l.b o
theorem step_freeze {r : Ref} {row : Row} (h : MemOk P I w φ m) (hm : m.row r = some row) (ha : row.arr = true) (hg : r.g ≠ 0) :
    ∃ I', MemOk P I' w φ (m.set r.d r.s r.i { row with fz := true }) ∧ Ext I w φ I' w φ ∧ Covers m φ I' r := by
  obtain ⟨rows, h1, h2, h3⟩ := (Mem.row_eq _ _ _).1 hm
  obtain ⟨l, hl, hok⟩ := h.live r row hm hg
  cases l with
  | none =>
    refine ⟨I, ?_, Ext.refl _ _ _, fun row' l' _ _ hl' => by rw [hl] at hl'; simp at hl'⟩
    refine h.replace (rows := rows) (l' := none) h1 (by rw [h2]; exact Nat.le_refl _) (by simp only [h3]; exact hg) (fun _ _ h => h) (fun r h => .inl h) ?_ ⟨hok.1, ha⟩ (fun _ _ _ _ _ _ _ h => h)
      (fun _ _ _ _ _ e => by simp at e) (Nat.le_refl _) (fun _ e => by simp at e)
    have : (⟨r.d, r.s, r.i, row.g⟩ : Ref) = r := by rw [h3]
    simp only [this]; exact hl
  | some l =>
    have hr : (⟨r.d, r.s, r.i, row.g⟩ : Ref) = r := by rw [h3]
    have hII : ∀ b o, I b o → ImmRow I l row.es.length b o := fun _ _ h => .inl h
    have hsame : ∀ r' l0, ¬ (r'.d = r.d ∧ r'.s = r.s ∧ r'.i = r.i) → φ r' = some (some l0) → l0.b ≠ l.b := by
      intro r' l0 hn hl0
      exact h.dis r' r l0 l hl0 hl hn
    refine ⟨ImmRow I l row.es.length, ?_, ?_, ?_⟩
    · refine h.replace (rows := rows) (l' := some l) h1 (by rw [h2]; exact Nat.le_refl _) (by simp only [h3]; exact hg) (fun _ _ h => h) (fun r h => .inl h) (by simp only [hr]; exact hl) ?_ ?_ ?_ (Nat.le_refl _) ?_
      · obtain ⟨a1, a2, a3, a4, a5, a6, a7, a8⟩ := hok
        refine ⟨a1, a2, a3, a4, a5, ?_, ?_, ?_⟩
        · intro j e c v hj hc
          obtain ⟨x, x1, x2, x3⟩ := a6 j e c v hj hc
          refine ⟨x, x1, x2, ?_⟩
          simp only at ha ⊢
          rw [if_pos ha] at x3 ⊢
          exact x3.mono hII (fun _ _ _ _ h => h)
        · intro o hb hf hc
          have := hf rfl
          simp only at this
          rcases hc with hc | ⟨_, _, hc⟩
          · exact a7 o hb (fun _ => this) hc
          · omega
        · intro _
          exact ⟨ha, fun o b1 b2 => .inr ⟨rfl, b1, b2⟩⟩
      · intro r' row0 l0 hm' hg' hn hl0 hok0
        refine hok0.keep hII (fun _ _ _ _ h => h) (fun _ _ h => h) (fun _ _ => rfl) ?_
        intro loc o e _ hc
        rcases hc with hc | ⟨hb, _⟩
        · exact hc
        · exact absurd hb (hsame r' loc hn (by rw [hl0, e]))
      · intro r' l0 l1 hn hl0 e
        simp only [Option.some.injEq] at e
        subst e
        exact hsame r' l0 hn hl0
      · intro l1 e
        simp only [Option.some.injEq] at e
        subst e
        exact h.size r l hl
    · refine ⟨hII, fun _ _ _ _ h => h, fun _ _ h => h, Nat.le_refl _, rfl, rfl, rfl, fun _ _ _ => rfl, fun r l h => .inl ⟨r, l, h, rfl, rfl⟩, ?_, fun _ h => h, ?_⟩
      rotate_left
      · intro ho b o hb
        rcases hb with hb | ⟨rfl, _⟩
        · exact ho _ _ hb
        · exact h.size r l hl
      intro b o hb
      rcases hb with hb | ⟨rfl, _⟩
      · exact .inl hb
      · exact .inr (.inl ⟨r, l, hl, rfl⟩)
    · intro row' l' hm' _ hl' o b1 b2
      rw [hm] at hm'; rw [hl] at hl'
      simp only [Option.some.injEq] at hm' hl'
      subst hm'; subst hl'
      exact .inr ⟨rfl, b1, b2⟩
def SameRows (m m' : Mem) : Prop := m'.out.length = m.out.length ∧ ∀ r row, m.row r = some row → ∃ fz, m'.row r = some { row with fz }
theorem SameRows.refl (m : Mem) : SameRows m m := ⟨rfl, fun r row h => ⟨row.fz, h⟩⟩
theorem SameRows.trans {a b c : Mem} (h : SameRows a b) (k : SameRows b c) : SameRows a c :=
  ⟨k.1.trans h.1, fun r row hr => by obtain ⟨f, hf⟩ := h.2 r row hr; obtain ⟨g, hg⟩ := k.2 r _ hf; exact ⟨g, hg⟩⟩
theorem Covers.same {m m' : Mem} {φ : Phi} {I : Imm} {r : Ref} (h : SameRows m m') (hc : Covers m' φ I r) : Covers m φ I r := by
  intro row l hm ha hl o a b
  obtain ⟨fz, hm'⟩ := h.2 r row hm
  exact hc _ l hm' ha hl o a b
theorem Covers.mono {m : Mem} {φ : Phi} {I I' : Imm} {r : Ref} (h : ∀ b o, I b o → I' b o) (hc : Covers m φ I r) : Covers m φ I' r :=
  fun row l a a' b o c d => h _ _ (hc row l a a' b o c d)
def Cov1 (m : Mem) (φ : Phi) (I : Imm) (v : V) : Prop := ∀ r ty off len, v = .rs r ty off len → Covers m φ I r
def Cov (m : Mem) (φ : Phi) (I : Imm) : V → Prop
  | .agg cs => ∀ v ∈ cs, Cov1 m φ I v
  | v => Cov1 m φ I v
theorem SameRows.set {r : Ref} {row : Row} (hm : m.row r = some row) : SameRows m (m.set r.d r.s r.i { row with fz := true }) := by
  refine ⟨by simp, fun r' row' h' => ?_⟩
  obtain ⟨rows, h1, h2, h3⟩ := (Mem.row_eq _ _ _).1 hm
  by_cases e : r'.d = r.d ∧ r'.s = r.s ∧ r'.i = r.i
  · obtain ⟨rows', k1, k2, k3⟩ := (Mem.row_eq _ _ _).1 h'
    rw [e.1, h1] at k1
    have := Option.some.inj k1
    subst this
    rw [e.2.1, e.2.2, h2] at k2
    subst k2
    have er : r' = r := by cases r'; cases r; simp_all
    subst er
    exact ⟨true, Mem.row_set_same h1 h3⟩
  · exact ⟨row'.fz, by rw [Mem.row_set_ne e]; exact h'⟩
theorem frz1_sound (h : MemOk P I w φ m) {v : V} {x : Value} (hr : Rel P I w φ v x) :
    ∃ I', MemOk P I' w φ (frz1 m v) ∧ Ext I w φ I' w φ ∧ Cov1 m φ I' v ∧ SameRows m (frz1 m v) := by
  by_cases hrs : ∃ r ty off len, v = .rs r ty off len
  · obtain ⟨r, ty, off, len, rfl⟩ := hrs
    have hg : r.g ≠ 0 := by
      rcases rel_rs hr with ⟨h0, _⟩ | ⟨l, h0, _⟩ | ⟨l, a, h0, _⟩
      · exact h.zero r (by rw [h0]; simp)
      · exact h.zero r (by rw [h0]; simp)
      · exact h.zero r (by rw [h0]; simp)
    simp only [frz1]
    cases hm : m.row r with
    | none => exact ⟨I, h, Ext.refl _ _ _, fun r' ty' off' len' e row l hm' => (by cases e; rw [hm] at hm'; simp at hm'), SameRows.refl _⟩
    | some row =>
      simp only
      by_cases ha : row.arr = true
      · rw [if_pos ha]
        obtain ⟨I', h1, h2, h3⟩ := step_freeze h hm ha hg
        exact ⟨I', h1, h2, fun r' ty' off' len' e => (by cases e; exact h3), SameRows.set hm⟩
      · rw [if_neg ha]
        exact ⟨I, h, Ext.refl _ _ _, fun r' ty' off' len' e row' l' hm' ha' => (by cases e; rw [hm] at hm'; exact absurd (Option.some.inj hm' ▸ ha') ha), SameRows.refl _⟩
  · have e : frz1 m v = m := by
      cases v <;> first | rfl | exact absurd ⟨_, _, _, _, rfl⟩ hrs
    rw [e]
    exact ⟨I, h, Ext.refl _ _ _, fun r ty off len e' => absurd ⟨r, ty, off, len, e'⟩ hrs, SameRows.refl _⟩
theorem Cov1.mono {m : Mem} {φ : Phi} {I I' : Imm} {v : V} (hI : ∀ b o, I b o → I' b o) (h : Cov1 m φ I v) : Cov1 m φ I' v :=
  fun r ty off len e => (h r ty off len e).mono hI
theorem Cov1.same {m m' : Mem} {φ : Phi} {I : Imm} {v : V} (hs : SameRows m m') (h : Cov1 m' φ I v) : Cov1 m φ I v :=
  fun r ty off len e => Covers.same hs (h r ty off len e)
theorem Cov.mono {m : Mem} {φ : Phi} {I I' : Imm} {v : V} (hI : ∀ b o, I b o → I' b o) (h : Cov m φ I v) : Cov m φ I' v := by
  cases v <;> first | exact Cov1.mono hI h | exact fun v hv => (h v hv).mono hI
theorem Cov.same {m m' : Mem} {φ : Phi} {I : Imm} {v : V} (hs : SameRows m m') (h : Cov m' φ I v) : Cov m φ I v := by
  cases v <;> first | exact Cov1.same hs h | exact fun v hv => (h v hv).same hs
theorem frzL_sound : ∀ (vs : List V) (xs : List Value) (I : Imm) (m : Mem), MemOk P I w φ m → All2 (Rel P I w φ) vs xs →
    ∃ I', MemOk P I' w φ (frzL m vs) ∧ Ext I w φ I' w φ ∧ (∀ v ∈ vs, Cov1 m φ I' v) ∧ SameRows m (frzL m vs)
  | [], xs, I, m, h, _ => ⟨I, h, Ext.refl _ _ _, by simp, SameRows.refl _⟩
  | v :: vs, xs, I, m, h, ha => by
    obtain ⟨x, ys, rfl, h0, ht⟩ := ha.head
    obtain ⟨I1, m1, e1, c1, s1⟩ := frz1_sound h h0
    obtain ⟨I2, m2, e2, c2, s2⟩ := frzL_sound vs ys I1 (frz1 m v) m1 (ht.mono fun _ _ hr => hr.ext e1)
    refine ⟨I2, m2, e1.trans e2, ?_, s1.trans s2⟩
    intro v' hv'
    cases hv' with
    | head => exact c1.mono e2.imm
    | tail _ hv' => exact (c2 v' hv').same s1
theorem frz_sound (h : MemOk P I w φ m) {v : V} {x : Value} (hr : Rel P I w φ v x) :
    ∃ I', MemOk P I' w φ (frz m v) ∧ Ext I w φ I' w φ ∧ Cov m φ I' v ∧ SameRows m (frz m v) := by
  cases v with
  | agg cs =>
    obtain ⟨xs, rfl, hl, hp, _⟩ := rel_agg hr
    simp only [frz]
    split
    · exact frzL_sound cs xs I m h ⟨hl, hp⟩
    · rename_i hn
      refine ⟨I, h, Ext.refl _ _ _, ?_, SameRows.refl _⟩
      intro v hv r ty off len e
      subst e
      exact absurd (List.any_eq_true.2 ⟨_, hv, rfl⟩) hn
  | _ => exact frz1_sound h hr
theorem frzs_sound : ∀ (vs : List V) (xs : List Value) (I : Imm) (m : Mem), MemOk P I w φ m → All2 (Rel P I w φ) vs xs →
    ∃ I', MemOk P I' w φ (frzs m vs) ∧ Ext I w φ I' w φ ∧ (∀ v ∈ vs, Cov m φ I' v) ∧ SameRows m (frzs m vs)
  | [], xs, I, m, h, _ => ⟨I, h, Ext.refl _ _ _, by simp, SameRows.refl _⟩
  | v :: vs, xs, I, m, h, ha => by
    obtain ⟨x, ys, rfl, h0, ht⟩ := ha.head
    obtain ⟨I1, m1, e1, c1, s1⟩ := frz_sound h h0
    obtain ⟨I2, m2, e2, c2, s2⟩ := frzs_sound vs ys I1 (frz m v) m1 (ht.mono fun _ _ hr => hr.ext e1)
    refine ⟨I2, m2, e1.trans e2, ?_, s1.trans s2⟩
    intro v' hv'
    cases hv' with
    | head => exact c1.mono e2.imm
    | tail _ hv' => exact (c2 v' hv').same s1
theorem cut_get (l : List V) (off len j : Nat) (e : V) (h : (cut l off len)[j]? = some e) : l[off + j]? = some e ∧ j < len := by
  unfold cut at h
  rw [List.getElem?_take] at h
  split at h
  · rename_i hj; exact ⟨by simpa using h, hj⟩
  · simp at h
theorem cut_length (l : List V) (off len : Nat) (h : off + len ≤ l.length) : (cut l off len).length = len := by
  unfold cut; simp; omega
theorem relP_cut (I' : Imm) (hI : ∀ b o, I b o → I' b o) {row : Row} {l : Loc} (hok : RowOk P I w φ row (some l)) (ha : row.arr = true) {off len : Nat} (hle : off + len ≤ row.es.length)
    (hc : ∀ o, l.base ≤ o → o < l.base + row.es.length * l.z → I' l.b o) :
    RelP I' w (.sl (cut row.es off len)) (.slice (some ⟨l.b, l.base + off * l.z, none⟩) len (l.cap - off)) := by
  obtain ⟨h1, h2, h2', h3, h5, h6, _, _⟩ := hok
  have hlen := cut_length row.es off len hle
  have hx : ∀ (j : Nat) (e : V) (c : Nat) (v : V), (cut row.es off len)[j]? = some e → e.cells[c]? = some v → ∃ x, w.cell? ⟨l.b, l.base + off * l.z + j * l.z + c, none⟩ = some x ∧ x.oneCell' = true ∧ RelP I w v x := by
    intro j e c v hj hcv
    obtain ⟨hj', _⟩ := cut_get _ _ _ _ _ hj
    obtain ⟨x, x1, xo, x3⟩ := h6 (off + j) e c v hj' hcv
    rw [if_pos ha] at x3
    refine ⟨x, ?_, xo, x3⟩
    rw [show l.base + off * l.z + j * l.z + c = l.base + (off + j) * l.z + c by rw [Nat.add_mul]; omega]
    exact x1
  have key : RelP I' w (.sl (cut row.es off len)) (.slice (some ⟨l.b, l.base + off * l.z, none⟩) (cut row.es off len).length (l.cap - off)) := by
    refine .sl (z := l.z) (fun j c => (w.cell? ⟨l.b, l.base + off * l.z + j * l.z + c, none⟩).getD Go.undef) (by rw [hlen]; omega) ?_ ?_ ?_
    · intro j e hj
      exact h5 _ e (cut_get _ _ _ _ _ hj).1
    · intro j e c v hj hcv
      obtain ⟨x, x1, xo, _⟩ := hx j e c v hj hcv
      obtain ⟨hj', hjl⟩ := cut_get _ _ _ _ _ hj
      refine ⟨by rw [x1]; rfl, ?_, by rw [x1]; exact xo⟩
      have hw := h5 _ e hj'
      have hcl : c < l.z := by
        rw [← hw]
        have : c < e.cells.length := by
          rcases Nat.lt_or_ge c e.cells.length with h | h
          · exact h
          · simp [List.getElem?_eq_none h] at hcv
        cases e <;> simpa [V.width, V.cells] using this
      have hlt : off + j < row.es.length := by omega
      refine hc _ (by omega) ?_
      have : (off + j + 1) * l.z ≤ row.es.length * l.z := Nat.mul_le_mul_right _ hlt
      have e1 : (off + j + 1) * l.z = off * l.z + j * l.z + l.z := by rw [Nat.add_mul, Nat.add_mul]; omega
      omega
    · intro j e c v hj hcv
      obtain ⟨x, x1, _, x2⟩ := hx j e c v hj hcv
      rw [x1]
      exact x2.mono hI (fun _ _ _ _ h => h)
  rw [hlen] at key
  exact key
theorem snap1_sound (h : MemOk P I w φ m) {I' : Imm} (hI : ∀ b o, I b o → I' b o) {v v' : V} {x : Value} (hr : Rel P I w φ v x) (hc : Cov1 m φ I' v) (hs : snap1 m v = some v') :
    Rel P I' w φ v' x := by
  by_cases hrs : ∃ r ty off len, v = .rs r ty off len
  · obtain ⟨r, ty, off, len, rfl⟩ := hrs
    simp only [snap1] at hs
    cases hm : m.row r with
    | none => simp [hm] at hs
    | some row =>
      simp only [hm] at hs
      split at hs
      · rename_i hcond
        simp only [Option.some.injEq] at hs
        subst hs
        rcases rel_rs hr with ⟨h0, rfl, rfl, rfl⟩ | ⟨l, h0, h1, h2, rfl⟩ | ⟨l, a, h0, _, rfl, rfl⟩
        · have : cut row.es 0 0 = [] := by simp [cut]
          rw [this]; exact .p .slNil
        · have hg := h.zero r (by rw [h0]; simp)
          obtain ⟨l', hl', hok⟩ := h.live r row hm hg
          rw [h0] at hl'
          have := Option.some.inj hl'
          subst this
          exact .p (relP_cut I' hI hok hcond.1 hcond.2 (hc r ty off len rfl row l hm hcond.1 h0))
        · have : cut row.es off 0 = [] := by simp [cut]
          rw [this]; exact .p .slNil
      · simp at hs
  · cases v with
    | rs r ty off len => exact absurd ⟨r, ty, off, len, rfl⟩ hrs
    | nilS => simp only [snap1, Option.some.injEq] at hs; subst hs; rw [rel_nilS hr]; exact .p .slNil
    | _ => simp only [snap1, Option.some.injEq] at hs; subst hs; exact hr.mono hI (fun _ _ _ _ h => h) (fun _ _ h => h)
theorem snapL_sound : ∀ (vs vs' : List V) (xs : List Value) {I I' : Imm}, MemOk P I w φ m → (∀ b o, I b o → I' b o) → All2 (Rel P I w φ) vs xs → (∀ v ∈ vs, Cov1 m φ I' v) → snapL m vs = some vs' →
    All2 (Rel P I' w φ) vs' xs
  | [], vs', xs, I, I', _, _, ha, _, hs => by
    simp only [snapL, Option.some.injEq] at hs; subst hs; rw [ha.nil_left]; exact .nil
  | v :: vs, vs', xs, I, I', h, hI, ha, hc, hs => by
    obtain ⟨x, ys, rfl, h0, ht⟩ := ha.head
    simp only [snapL] at hs
    cases h1 : snap1 m v with
    | none => simp [h1] at hs
    | some v1 =>
      cases h2 : snapL m vs with
      | none => simp [h1, h2] at hs
      | some vs1 =>
        simp only [h1, h2, Option.some.injEq] at hs
        subst hs
        exact .cons (snap1_sound h hI h0 (hc v (by simp)) h1) (snapL_sound vs vs1 ys h hI ht (fun v hv => hc v (by simp [hv])) h2)
theorem snap_sound (h : MemOk P I w φ m) {I' : Imm} (hI : ∀ b o, I b o → I' b o) {v v' : V} {x : Value} (hr : Rel P I w φ v x) (hc : Cov m φ I' v) (hs : snap m v = some v') :
    Rel P I' w φ v' x := by
  cases v with
  | agg cs =>
    obtain ⟨xs, rfl, hl, hp, ho⟩ := rel_agg hr
    simp only [snap] at hs
    split at hs
    · cases h1 : snapL m cs with
      | none => simp [h1] at hs
      | some cs' =>
        simp only [h1, Option.map_some, Option.some.injEq] at hs
        subst hs
        have := snapL_sound cs cs' xs h hI ⟨hl, hp⟩ hc h1
        exact .agg this.1 this.2 ho
    · simp only [Option.some.injEq] at hs; subst hs; exact hr.mono hI (fun _ _ _ _ h => h) (fun _ _ h => h)
  | _ => exact snap1_sound h hI hr hc hs
theorem snaps_sound : ∀ (vs vs' : List V) (xs : List Value) {I I' : Imm}, MemOk P I w φ m → (∀ b o, I b o → I' b o) → All2 (Rel P I w φ) vs xs → (∀ v ∈ vs, Cov m φ I' v) → snaps m vs = some vs' →
    All2 (Rel P I' w φ) vs' xs
  | [], vs', xs, I, I', _, _, ha, _, hs => by
    simp only [snaps, Option.some.injEq] at hs; subst hs; rw [ha.nil_left]; exact .nil
  | v :: vs, vs', xs, I, I', h, hI, ha, hc, hs => by
    obtain ⟨x, ys, rfl, h0, ht⟩ := ha.head
    simp only [snaps] at hs
    cases h1 : snap m v with
    | none => simp [h1] at hs
    | some v1 =>
      cases h2 : snaps m vs with
      | none => simp [h1, h2] at hs
      | some vs1 =>
        simp only [h1, h2, Option.some.injEq] at hs
        subst hs
        exact .cons (snap_sound h hI h0 (hc v (by simp)) h1) (snaps_sound vs vs1 ys h hI ht (fun v hv => hc v (by simp [hv])) h2)
theorem pure1 {v : V} {x : Value} (hr : Rel P I w φ v x) (ho : x.oneCell' = true) (hn : v.loose = false) : RelP I w v x := by
  cases hr with
  | p h => exact h
  | ptr h => simp [V.loose] at hn
  | rsNil h => simp [V.loose] at hn
  | rs h h1 h2 => simp [V.loose] at hn
  | rsE h h1 => simp [V.loose] at hn
  | fn h1 h2 h3 h4 =>
    rename_i f first cap xs ys
    simp only [V.loose, Bool.not_eq_false', List.isEmpty_iff] at hn
    subst hn
    have : ys = [] := by cases ys with
      | nil => rfl
      | cons => simp at h3
    subst this
    exact .fn h1 h2
  | agg h1 h2 h3 => simp [Value.oneCell'] at ho
  | tup h1 h2 => simp [Value.oneCell'] at ho
theorem pureR {v : V} {x : Value} (hr : Rel P I w φ v x) (hn : v.refs = false) : RelP I w v x := by
  cases hr with
  | p h => exact h
  | ptr h => simp [V.refs, V.loose] at hn
  | rsNil h => simp [V.refs, V.loose] at hn
  | rs h h1 h2 => simp [V.refs, V.loose] at hn
  | rsE h h1 => simp [V.refs, V.loose] at hn
  | fn h1 h2 h3 h4 => exact pure1 (.fn h1 h2 h3 h4) rfl hn
  | agg hl hp ho =>
    simp only [V.refs, List.any_eq_false] at hn
    refine .agg hl (fun i v y a b => ?_) ho
    exact pure1 (hp i v y a b) (ho y (List.mem_of_getElem? b)) (by simpa using hn v (List.mem_of_getElem? a))
  | tup hl hp => simp [V.refs] at hn
theorem pure_of {v : V} {x : Value} (hr : Rel P I w φ v x) (hn : v.refs = false) (h1 : v.ok1 = true ∨ ∃ k, v = .junk ∧ k = x) : RelP I w v x := by
  cases v with
  | agg cs =>
    obtain ⟨xs, rfl, hl, hp, ho⟩ := rel_agg hr
    simp only [V.refs, List.any_eq_false] at hn
    refine .agg hl (fun i v y a b => ?_) ho
    exact pure1 (hp i v y a b) (ho y (List.mem_of_getElem? b)) (by simpa using hn v (List.mem_of_getElem? a))
  | junk => cases hr with | p h => exact h
  | undef => simp [V.ok1] at h1
  | tup => simp [V.ok1] at h1
  | own => simp [V.ok1] at h1
  | bool b => rw [rel_bool hr]; exact .bool _
  | int k n => rw [rel_int hr]; exact .int _ _
  | str s => rw [rel_str hr]; exact .str _
  | nilI => rw [rel_nilI hr]; exact .nilI
  | ifc t v => obtain ⟨y, rfl, hy⟩ := rel_ifc hr; exact .ifc hy
  | nilF => cases hr with | p h => exact h
  | nilP => rw [rel_nilP hr]; exact .nilP
  | fn f a b => obtain ⟨xs, ys, rfl, _⟩ := rel_fn hr; exact pure1 hr rfl hn
  | ptr => simp [V.refs, V.loose] at hn
  | rs => simp [V.refs, V.loose] at hn
  | nilS => simp [V.refs, V.loose] at hn
  | cptr => cases hr with | p h => exact h
  | sl es => cases hr with | p h => exact h
end
end Go.Ev
namespace Go.Ev
section
variable {X : Env} {I : Imm} {w : World} {φ : Phi} {m : Mem}
def GlobOk (X : Env) (I : Imm) (w : World) : Prop := (∀ g ∈ X.ints, ∃ k : Int, w.cell? ⟨g, 0, none⟩ = some (.int .i64 k) ∧ I g 0) ∧ ∀ g v ty, X.glob g = some (v, ty) →
  ∃ xs : Nat → Value, ∀ (c : Nat) (u : V), v.cells[c]? = some u → w.cell? ⟨g, c, none⟩ = some (xs c) ∧ I g c ∧ (xs c).oneCell' = true ∧ RelP I w u (xs c)
theorem GlobOk.ext {I' : Imm} {w' : World} {φ φ' : Phi} (h : GlobOk X I w) (e : Ext I w φ I' w' φ') : GlobOk X I' w' := by
  refine ⟨fun g hg => ?_, fun g v ty hg => ?_⟩
  · obtain ⟨k, h1, h2⟩ := h.1 g hg
    exact ⟨k, e.cell _ _ _ h2 h1, e.imm _ _ h2⟩
  obtain ⟨xs, hx⟩ := h.2 g v ty hg
  exact ⟨xs, fun c u hc => ⟨e.cell _ _ _ (hx c u hc).2.1 (hx c u hc).1, e.imm _ _ (hx c u hc).2.1, (hx c u hc).2.2.1, (hx c u hc).2.2.2.ext e⟩⟩
def TmOk (X : Env) (I : Imm) (w : World) (φ : Phi) (t : Tm) (a : Act) : Prop := ∀ i, Rel X.P I w φ (t.get i) (a.tmps.getD i Go.undef)
theorem opd_rel {t : Tm} {a : Act} (ht : TmOk X I w φ t a) (hg : GlobOk X I w) (x : Operand) : Rel X.P I w φ (opd X t x) (a.eval x) := by
  cases x with
  | tmp i => exact ht i
  | const v => exact .p (relP_ofValue v)
  | func f => exact .p (.fn rfl (fun i v x a _ => by simp at a))
  | global g =>
    simp only [opd, Act.eval]
    cases h : X.glob g with
    | none => exact .p (.junk _ (fun _ h => by cases h))
    | some p =>
      obtain ⟨v, ty⟩ := p
      obtain ⟨xs, hx⟩ := hg.2 g v ty h
      have := RelP.cptr (I := I) (w := w) (e := v) (ty := ty) (off := 0) (b := g) (o := 0) xs (fun c u hc => by
        have := hx c u hc; rw [Nat.zero_add]; exact ⟨this.1, this.2.1, this.2.2.1⟩) (fun c u hc => (hx c u hc).2.2.2)
      exact .p this
theorem opds_rel {t : Tm} {a : Act} (ht : TmOk X I w φ t a) (hg : GlobOk X I w) (l : List Operand) : All2 (Rel X.P I w φ) (mapOpd X t l) (l.map a.eval) := by
  induction l with
  | nil => exact .nil
  | cons x l ih => exact .cons (opd_rel ht hg x) ih
theorem info_of_underlying {P : Program} {t : TypeId} {d : TypeDesc} (h : P.underlying t = some d) : ∃ i, P.info? t = some i := by
  unfold Program.underlying at h
  cases hi : P.info? t with
  | none => simp [hi] at h
  | some i => exact ⟨i, rfl⟩
theorem run_sizeOf' {P : Program} {t : TypeId} {d : TypeDesc} (h : P.underlying t = some d) (w : World) : (sizeOf t).run P w = .ok (P.cellsOf t) w := by
  obtain ⟨i, hi⟩ := info_of_underlying h
  exact run_sizeOf w hi
theorem aggT_some {P : Program} {t : TypeId} {b : Bool} (h : aggT P t = some b) : ∃ d, P.underlying t = some d := by
  unfold aggT at h
  cases hd : P.underlying t with
  | none => simp [hd] at h
  | some d => exact ⟨d, rfl⟩
theorem run_isAgg {P : Program} {t : TypeId} {b : Bool} (h : aggT P t = some b) (w : World) : (isAgg t).run P w = .ok b w := by
  obtain ⟨d, hd⟩ := aggT_some h
  unfold aggT at h
  rw [hd] at h
  simp only [isAgg, Sem.run_bind, run_underlying hd, Result.andThen_ok]
  cases d <;> simp at h <;> subst h <;> rfl
theorem part_sound {P : Program} {t : TypeId} {cs : List V} {xs : List Value} {off : Nat} {v : V} (ha : All2 (Rel P I w φ) cs xs) (ho : ∀ y ∈ xs, y.oneCell' = true) (h : Ev.part P t cs off = some v) :
    ∃ x, (Go.part t ⟨xs⟩ off).run P w = .ok x w ∧ Rel P I w φ v x := by
  unfold Ev.part at h
  cases hg : aggT P t with
  | none => simp [hg] at h
  | some b =>
    obtain ⟨d, hd⟩ := aggT_some hg
    rw [hg] at h
    cases b with
    | true =>
      simp only [Option.some.injEq] at h
      subst h
      refine ⟨.agg ⟨(xs.drop off).take (P.cellsOf t)⟩, ?_, ?_⟩
      · simp only [Go.part, Sem.run_bind, run_isAgg hg, Result.andThen_ok, if_true, run_sizeOf' hd, Sem.run_pure]
        congr 2
        apply Array.ext'
        simp [List.extract_eq_take_drop]
      · have := (ha.drop off).take (P.cellsOf t)
        exact .agg this.1 this.2 (fun y hy => ho y (List.mem_of_mem_drop (List.mem_of_mem_take hy)))
    | false =>
      simp only at h
      obtain ⟨y, hy, hr⟩ := ha.get h
      refine ⟨y, ?_, hr⟩
      simp only [Go.part, Sem.run_bind, run_isAgg hg, Result.andThen_ok, Bool.false_eq_true, if_false]
      have : (⟨xs⟩ : Array Value)[off]? = some y := by simpa using hy
      rw [this]
      rfl
theorem add_off (b o k : Nat) : (⟨b, o, none⟩ : Addr).add k = ⟨b, o + k, none⟩ := by
  unfold Addr.add; split <;> simp_all
theorem load_sound {P : Program} {t ty : TypeId} {e v : V} {b o off : Nat} (hc : ∀ (c : Nat) (u : V), e.cells[c]? = some u → ∃ x, w.cell? ⟨b, o + c, none⟩ = some x ∧ x.oneCell' = true ∧ Rel P I w φ u x)
    (h : Ev.pick P t ty e off = some v) : ∃ x, (loadVar t ⟨b, o + off, none⟩).run P w = .ok x w ∧ Rel P I w φ v x := by
  have agg : ∀ (cs : List V) (o : Nat), (∀ (c : Nat) (u : V), cs[c]? = some u → ∃ x, w.cell? ⟨b, o + c, none⟩ = some x ∧ x.oneCell' = true ∧ Rel P I w φ u x) →
      ∃ xs : List Value, (loadCells ⟨b, o, none⟩ cs.length).run P w = .ok ⟨xs⟩ w ∧ All2 (Rel P I w φ) cs xs ∧ ∀ y ∈ xs, y.oneCell' = true := by
    intro cs o hcs
    have hl := run_loadCells (P := P) w ⟨b, o, none⟩ cs.length (fun j => (w.cell? ⟨b, o + j, none⟩).getD Go.undef) (fun j hj => by
      rw [add_off]
      obtain ⟨x, hx, _⟩ := hcs j cs[j] (by simp [hj])
      rw [hx]; rfl)
    refine ⟨_, hl, ⟨by simp, ?_⟩, ?_⟩
    · intro i u x hu hx
      obtain ⟨y, hy, _, hr⟩ := hcs i u hu
      have hi : i < cs.length := by
        rcases Nat.lt_or_ge i cs.length with h | h
        · exact h
        · simp [List.getElem?_eq_none h] at hu
      simp only [List.getElem?_map, List.getElem?_range hi, Option.map_some, Option.some.injEq] at hx
      rw [hy] at hx
      simp at hx
      subst hx
      exact hr
    · intro y hy
      simp only [List.mem_map, List.mem_range] at hy
      obtain ⟨j, hj, rfl⟩ := hy
      obtain ⟨x, hx, h1, _⟩ := hcs j cs[j] (by simp [hj])
      rw [hx]; exact h1
  unfold Ev.pick at h
  split at h
  · rename_i hto
    obtain ⟨rfl, rfl⟩ := hto
    split at h
    · rename_i hag
      obtain ⟨hag, hwd⟩ := hag
      simp only [Option.some.injEq] at h
      subst h
      obtain ⟨d, hd⟩ := aggT_some hag
      simp only [Nat.add_zero]
      cases e with
      | agg cs =>
        obtain ⟨xs, h1, h2, h3⟩ := agg cs o hc
        have hag' : aggT P t = some true := hag
        have hw' : P.cellsOf t = cs.length := hwd.symm
        refine ⟨.agg ⟨xs⟩, ?_, .agg h2.1 h2.2 h3⟩
        simp only [loadVar, Sem.run_bind, run_isAgg hag', Result.andThen_ok, if_true, run_sizeOf' hd, hw', h1, Sem.run_pure]
      | _ =>
        obtain ⟨x, hx, _, hr⟩ := hc 0 _ rfl
        refine ⟨x, ?_, hr⟩
        simp only [Nat.add_zero] at hx
        simp only [loadVar, Sem.run_bind, run_isAgg hag, V.isAgg, Result.andThen_ok, Bool.false_eq_true, if_false, run_load, hx]
    · simp at h
  · split at h
    · rename_i hle
      unfold Ev.part at h
      cases hg : aggT P t with
      | none => simp [hg] at h
      | some bb =>
        obtain ⟨d, hd⟩ := aggT_some hg
        rw [hg] at h
        have hwc : e.cells.length = e.width := by cases e <;> rfl
        cases bb with
        | true =>
          simp only [Option.some.injEq] at h
          subst h
          obtain ⟨xs, h1, h2, h3⟩ := agg ((e.cells.drop off).take (P.cellsOf t)) (o + off) (fun c u hu => by
            rw [List.getElem?_take] at hu
            split at hu
            · rw [List.getElem?_drop] at hu
              obtain ⟨x, hx, h1, hr⟩ := hc (off + c) u hu
              exact ⟨x, by rw [Nat.add_assoc]; exact hx, h1, hr⟩
            · simp at hu)
          have hlen : ((e.cells.drop off).take (P.cellsOf t)).length = P.cellsOf t := by simp; omega
          rw [hlen] at h1
          refine ⟨.agg ⟨xs⟩, ?_, .agg h2.1 h2.2 h3⟩
          simp only [loadVar, Sem.run_bind, run_isAgg hg, Result.andThen_ok, if_true, run_sizeOf' hd, h1, Sem.run_pure]
        | false =>
          simp only at h
          obtain ⟨x, hx, _, hr⟩ := hc off v h
          refine ⟨x, ?_, hr⟩
          simp only [loadVar, Sem.run_bind, run_isAgg hg, Result.andThen_ok, Bool.false_eq_true, if_false, run_load, hx]
    · simp at h
end
end Go.Ev
namespace Go.Ev
section
variable {P : Program} {I : Imm} {w : World} {φ : Phi}
theorem wr_eq (k : IntKind) (n : Int) : wr k n = k.wrap n := by
  unfold wr
  split
  · split
    · rename_i h
      simp only [IntKind.wrap, IntKind.bits, IntKind.signed, Bool.true_and]
      obtain ⟨h1, h2⟩ := h
      by_cases hn : 0 ≤ n
      · have : n % (2 ^ 64 : Int) = n := by omega
        simp only [this]
        rw [if_neg (by simp; omega)]
      · have : n % (2 ^ 64 : Int) = n + 2 ^ 64 := by omega
        simp only [this]
        rw [if_pos (by simp; omega)]
        omega
    · rfl
  · rfl
theorem intBin_sound {op : BinOp} {k : IntKind} {a b : Int} {v : V} (h : intBin op k a b = some v) (hs : op ≠ .shl ∧ op ≠ .shr) (t : TypeId) :
    ∃ x, (binOp op t (.int k a) (.int k b)).run P w = .ok x w ∧ Rel P I w φ v x := by
  unfold intBin at h
  cases op <;> simp only [reduceCtorEq, Option.some.injEq] at h <;> try (subst h)
  case add => exact ⟨.int k (k.wrap (a + b)), by simp only [binOp, ne_eq, not_true_eq_false, if_false, Op.intArith, Op.intDiv, Op.intBits, Op.intCmp]; rfl, .p (by rw [wr_eq]; exact .int _ _)⟩
  case sub => exact ⟨.int k (k.wrap (a - b)), by simp only [binOp, ne_eq, not_true_eq_false, if_false, Op.intArith, Op.intDiv, Op.intBits, Op.intCmp]; rfl, .p (by rw [wr_eq]; exact .int _ _)⟩
  case mul => exact ⟨.int k (k.wrap (a * b)), by simp only [binOp, ne_eq, not_true_eq_false, if_false, Op.intArith, Op.intDiv, Op.intBits, Op.intCmp]; rfl, .p (by rw [wr_eq]; exact .int _ _)⟩
  case quo =>
    split at h
    · simp at h
    · rename_i hb
      simp only [Option.some.injEq] at h; subst h
      exact ⟨.int k (k.wrap (a.tdiv b)), by simp only [binOp, ne_eq, not_true_eq_false, if_false, Op.intDiv, hb]; rfl, .p (by rw [wr_eq]; exact .int _ _)⟩
  case rem =>
    split at h
    · simp at h
    · rename_i hb
      simp only [Option.some.injEq] at h; subst h
      exact ⟨.int k (a.tmod b), by simp only [binOp, ne_eq, not_true_eq_false, if_false, Op.intDiv, hb]; rfl, .p (.int _ _)⟩
  case and => exact ⟨.int k (k.wrap ((BitVec.ofInt k.bits a &&& BitVec.ofInt k.bits b).toNat)), by simp only [binOp, ne_eq, not_true_eq_false, if_false, Op.intArith, Op.intDiv, Op.intBits, Op.intCmp]; rfl, .p (by rw [wr_eq]; exact .int _ _)⟩
  case or => exact ⟨.int k (k.wrap ((BitVec.ofInt k.bits a ||| BitVec.ofInt k.bits b).toNat)), by simp only [binOp, ne_eq, not_true_eq_false, if_false, Op.intArith, Op.intDiv, Op.intBits, Op.intCmp]; rfl, .p (by rw [wr_eq]; exact .int _ _)⟩
  case xor => exact ⟨.int k (k.wrap ((BitVec.ofInt k.bits a ^^^ BitVec.ofInt k.bits b).toNat)), by simp only [binOp, ne_eq, not_true_eq_false, if_false, Op.intArith, Op.intDiv, Op.intBits, Op.intCmp]; rfl, .p (by rw [wr_eq]; exact .int _ _)⟩
  case andNot => exact ⟨.int k (k.wrap ((BitVec.ofInt k.bits a &&& ~~~BitVec.ofInt k.bits b).toNat)), by simp only [binOp, ne_eq, not_true_eq_false, if_false, Op.intArith, Op.intDiv, Op.intBits, Op.intCmp]; rfl, .p (by rw [wr_eq]; exact .int _ _)⟩
  case eql => exact ⟨.bool (a == b), by simp only [binOp, ne_eq, not_true_eq_false, if_false, Op.intArith, Op.intDiv, Op.intBits, Op.intCmp]; rfl, .p (.bool _)⟩
  case neq => exact ⟨.bool (a != b), by simp only [binOp, ne_eq, not_true_eq_false, if_false, Op.intArith, Op.intDiv, Op.intBits, Op.intCmp]; rfl, .p (.bool _)⟩
  case lss => exact ⟨.bool (decide (a < b)), by simp only [binOp, ne_eq, not_true_eq_false, if_false, Op.intArith, Op.intDiv, Op.intBits, Op.intCmp]; rfl, .p (.bool _)⟩
  case leq => exact ⟨.bool (decide (a ≤ b)), by simp only [binOp, ne_eq, not_true_eq_false, if_false, Op.intArith, Op.intDiv, Op.intBits, Op.intCmp]; rfl, .p (.bool _)⟩
  case gtr => exact ⟨.bool (decide (a > b)), by simp only [binOp, ne_eq, not_true_eq_false, if_false, Op.intArith, Op.intDiv, Op.intBits, Op.intCmp]; rfl, .p (.bool _)⟩
  case geq => exact ⟨.bool (decide (a ≥ b)), by simp only [binOp, ne_eq, not_true_eq_false, if_false, Op.intArith, Op.intDiv, Op.intBits, Op.intCmp]; rfl, .p (.bool _)⟩
theorem shiftBin_sound {op : BinOp} {k k' : IntKind} {a b : Int} {v : V} (h : shiftBin op k a b = some v) (hs : op = .shl ∨ op = .shr) (t : TypeId) :
    ∃ x, (binOp op t (.int k a) (.int k' b)).run P w = .ok x w ∧ Rel P I w φ v x := by
  unfold shiftBin at h
  split at h
  · simp at h
  · rename_i hy
    rcases hs with rfl | rfl
    · simp only [Option.some.injEq] at h; subst h
      exact ⟨.int k (k.wrap (a * 2 ^ (min b.toNat k.bits))), by simp only [binOp, Op.shift, hy, if_false]; rfl, .p (by rw [wr_eq]; exact .int _ _)⟩
    · simp only [Option.some.injEq] at h; subst h
      exact ⟨.int k (a.fdiv (2 ^ (min b.toNat k.bits))), by simp only [binOp, Op.shift, hy, if_false]; rfl, .p (.int _ _)⟩
theorem str_run {op : BinOp} (t : TypeId) (a b : ByteArray) : binOp op t (.string a) (.string b) = Op.stringOp op a b ∨ op = .shl ∨ op = .shr := by
  cases op <;> simp [binOp]
theorem strBin_sound {op : BinOp} {a b : List UInt8} {v : V} (h : strBin op a b = some v) (t : TypeId) :
    ∃ x, (binOp op t (.string ⟨a.toArray⟩) (.string ⟨b.toArray⟩)).run P w = .ok x w ∧ Rel P I w φ v x := by
  unfold strBin at h
  have hr : binOp op t (.string ⟨a.toArray⟩) (.string ⟨b.toArray⟩) = Op.stringOp op ⟨a.toArray⟩ ⟨b.toArray⟩ := by
    rcases str_run (op := op) t ⟨a.toArray⟩ ⟨b.toArray⟩ with h' | rfl | rfl
    · exact h'
    · simp at h
    · simp at h
  rw [hr]
  simp only [Op.stringOp, ByteArray.toList_mk]
  cases op <;> simp only [reduceCtorEq, Option.some.injEq] at h <;> try (subst h)
  case add =>
    split at h
    · rename_i hl
      simp only [Option.some.injEq] at h; subst h
      refine ⟨.string (⟨a.toArray⟩ ++ ⟨b.toArray⟩), ?_, ?_⟩
      · have h1 : (⟨a.toArray⟩ : ByteArray).size = a.length := by simp [ByteArray.size]
        have h2 : (⟨b.toArray⟩ : ByteArray).size = b.length := by simp [ByteArray.size]
        rw [if_neg]
        · rfl
        · rw [h1, h2]
          unfold Ev.maxLen at hl
          simp [IntKind.max, IntKind.bits, IntKind.signed]
          omega
      · have : (⟨a.toArray⟩ ++ ⟨b.toArray⟩ : ByteArray) = ⟨(a ++ b).toArray⟩ := by
          apply ByteArray.ext
          simp
        rw [this]
        exact .p (.str _)
    · simp at h
  case eql => exact ⟨_, rfl, .p (.bool _)⟩
  case neq => exact ⟨_, rfl, .p (.bool _)⟩
  case lss => exact ⟨_, rfl, .p (.bool _)⟩
  case leq => exact ⟨_, rfl, .p (.bool _)⟩
  case gtr => exact ⟨_, rfl, .p (.bool _)⟩
  case geq => exact ⟨_, rfl, .p (.bool _)⟩
theorem elems_sound {D d : Nat} {e : TypeId} {xs ys : List V} {az bs : List Value}
    (hf : ∀ x y a b r, Rel P I w φ x a → Rel P I w φ y b → eqT P d e x y = some r → (Op.equalIn D e a b).run P w = .ok r w)
    (hx : All2 (Rel P I w φ) xs az) (hy : All2 (Rel P I w φ) ys bs) (ox : ∀ y ∈ az, y.oneCell' = true) (oy : ∀ y ∈ bs, y.oneCell' = true) :
    ∀ (k i : Nat) (r : Bool), eqElems (eqT P d e) P e xs ys k i = some r →
      (forIn (List.range' i k) ((none : Option Bool), ()) (fun i __s => do
              let __do_lift ← Go.part e ⟨az⟩ (i * P.cellsOf e)
              let __do_lift_1 ← Go.part e ⟨bs⟩ (i * P.cellsOf e)
              let __do_lift ← Op.equalIn D e __do_lift __do_lift_1
              if (!__do_lift) = true then pure (ForInStep.done (some false, ())) else pure (ForInStep.yield (none, ()))) : Sem (Option Bool × Unit)).run P w
        = .ok (if r then none else some false, ()) w
  | 0, i, r, h => by simp only [eqElems, Option.some.injEq] at h; subst h; simp
  | k + 1, i, r, h => by
    simp only [eqElems] at h
    cases h1 : Ev.part P e xs (i * P.cellsOf e) with
    | none => simp [h1] at h
    | some x =>
      cases h2 : Ev.part P e ys (i * P.cellsOf e) with
      | none => simp [h1, h2] at h
      | some y =>
        obtain ⟨a, ha, ra⟩ := part_sound hx ox h1
        obtain ⟨b, hb, rb⟩ := part_sound hy oy h2
        simp only [h1, h2] at h
        cases h3 : eqT P d e x y with
        | none => simp [h3] at h
        | some q =>
          have hq := hf x y a b q ra rb h3
          cases q with
          | true =>
            simp only [h3] at h
            have ih := elems_sound hf hx hy ox oy k (i + 1) r h
            rw [List.range'_succ, List.forIn_cons]
            simp only [Sem.run_bind, ha, hb, hq, Result.andThen_ok, Bool.not_true, Bool.false_eq_true, if_false, Sem.run_pure]
            simpa using ih
          | false =>
            simp only [h3, Option.some.injEq] at h
            subst h
            rw [List.range'_succ, List.forIn_cons]
            simp only [Sem.run_bind, ha, hb, hq, Result.andThen_ok, Bool.not_false, if_true, Sem.run_pure, Bool.false_eq_true, if_false]
theorem fields_sound {D d : Nat} {xs ys : List V} {az bs : List Value}
    (hf : ∀ t x y a b r, Rel P I w φ x a → Rel P I w φ y b → eqT P d t x y = some r → (Op.equalIn D t a b).run P w = .ok r w)
    (hx : All2 (Rel P I w φ) xs az) (hy : All2 (Rel P I w φ) ys bs) (ox : ∀ y ∈ az, y.oneCell' = true) (oy : ∀ y ∈ bs, y.oneCell' = true) :
    ∀ (fs : List Field) (r : Bool), eqFields (eqT P d) P xs ys fs = some r → (Op.eqFields D ⟨az⟩ ⟨bs⟩ fs).run P w = .ok r w
  | [], r, h => by simp only [Ev.eqFields, Option.some.injEq] at h; subst h; rfl
  | fd :: fs, r, h => by
    simp only [Ev.eqFields] at h
    by_cases hn : fd.name = "_"
    · simp only [hn, if_true] at h
      simp only [Op.eqFields, hn, ne_eq, not_true_eq_false, if_false]
      exact fields_sound hf hx hy ox oy fs r h
    · simp only [hn, if_false] at h
      cases h1 : Ev.part P fd.type xs fd.offset with
      | none => simp [h1] at h
      | some x =>
        cases h2 : Ev.part P fd.type ys fd.offset with
        | none => simp [h1, h2] at h
        | some y =>
          obtain ⟨a, ha, ra⟩ := part_sound hx ox h1
          obtain ⟨b, hb, rb⟩ := part_sound hy oy h2
          simp only [h1, h2] at h
          cases h3 : eqT P d fd.type x y with
          | none => simp [h3] at h
          | some q =>
            have hq := hf fd.type x y a b q ra rb h3
            simp only [Op.eqFields, hn, ne_eq, not_false_eq_true, if_true, Sem.run_bind, ha, hb, hq, Result.andThen_ok]
            cases q with
            | true =>
              simp only [h3] at h
              simpa using fields_sound hf hx hy ox oy fs r h
            | false =>
              simp only [h3, Option.some.injEq] at h
              subst h
              simp
theorem eqT_sound : ∀ (d D : Nat) (t : TypeId) (x y : V) (a b : Value) (r : Bool), d ≤ D → Rel P I w φ x a → Rel P I w φ y b → eqT P d t x y = some r → (Op.equalIn D t a b).run P w = .ok r w
  | 0, D, t, x, y, a, b, r, _, _, _, h => by simp [eqT] at h
  | d + 1, 0, t, x, y, a, b, r, hD, _, _, h => by omega
  | d + 1, D + 1, t, x, y, a, b, r, hD, hx, hy, h => by
    simp only [eqT] at h
    cases hu : P.underlying t with
    | none => simp [hu] at h
    | some de =>
      simp only [hu] at h
      cases de with
      | bool =>
        simp only at h
        split at h
        · rw [rel_bool hx, rel_bool hy]
          simp only [Option.some.injEq] at h; subst h
          simp [Op.equalIn, run_underlying hu]
        · simp at h
      | int k =>
        simp only at h
        split at h
        · split at h
          · rename_i hk
            subst hk
            rw [rel_int hx, rel_int hy]
            simp only [Option.some.injEq] at h; subst h
            simp [Op.equalIn, run_underlying hu]
          · simp at h
        · simp at h
      | string =>
        simp only at h
        split at h
        · rw [rel_str hx, rel_str hy]
          simp only [Option.some.injEq] at h; subst h
          rw [run_equalIn_string w D t _ _ hu]
          simp
        · simp at h
      | interface ms =>
        simp only at h
        split at h
        · rw [rel_nilI hx, rel_nilI hy]
          simp only [Option.some.injEq] at h; subst h
          simp [Op.equalIn, run_underlying hu]
        · obtain ⟨z, rfl, _⟩ := rel_ifc hy
          rw [rel_nilI hx]
          simp only [Option.some.injEq] at h; subst h
          simp [Op.equalIn, run_underlying hu]
        · obtain ⟨z, rfl, _⟩ := rel_ifc hx
          rw [rel_nilI hy]
          simp only [Option.some.injEq] at h; subst h
          simp [Op.equalIn, run_underlying hu]
        · simp at h
      | pointer el =>
        simp only at h
        split at h
        · rw [rel_nilP hx, rel_nilP hy]
          simp only [Option.some.injEq] at h; subst h
          simp [Op.equalIn, run_underlying hu]
        · obtain ⟨l, _, rfl⟩ := rel_ptr hy
          rw [rel_nilP hx]
          simp only [Option.some.injEq] at h; subst h
          simp [Op.equalIn, run_underlying hu]
        · obtain ⟨l, _, rfl⟩ := rel_ptr hx
          rw [rel_nilP hy]
          simp only [Option.some.injEq] at h; subst h
          simp [Op.equalIn, run_underlying hu]
        · simp at h
      | struct fs =>
        simp only at h
        split at h
        · obtain ⟨az, rfl, la, pa, oa⟩ := rel_agg hx
          obtain ⟨bs, rfl, lb, pb, ob⟩ := rel_agg hy
          split at h
          · simp at h
          · rename_i hst
            have hfo : P.fieldsOf t = fs := by unfold Program.fieldsOf; rw [hu]
            rw [run_equalIn_struct w D t ⟨az⟩ ⟨bs⟩ (by rw [hfo]; exact hu) (by simpa using hst), hfo]
            exact fields_sound (fun t x y a b r p q e => eqT_sound d D t x y a b r (by omega) p q e) ⟨la, pa⟩ ⟨lb, pb⟩ oa ob _ r h
        · simp at h
      | array n el =>
        simp only at h
        split at h
        · obtain ⟨az, rfl, la, pa, oa⟩ := rel_agg hx
          obtain ⟨bs, rfl, lb, pb, ob⟩ := rel_agg hy
          split at h
          · rename_i hs
            obtain ⟨bb, hb⟩ := Option.isSome_iff_exists.1 hs
            obtain ⟨dd, hdd⟩ := aggT_some hb
            simp only [Op.equalIn, Sem.run_bind, run_underlying hu, Result.andThen_ok, run_sizeOf' hdd, Std.Legacy.Range.forIn_eq_forIn_range', Std.Legacy.Range.size, Nat.sub_zero, Nat.add_sub_cancel, Nat.div_one]
            rw [elems_sound (fun x y a b r p q e => eqT_sound d D el x y a b r (by omega) p q e) ⟨la, pa⟩ ⟨lb, pb⟩ oa ob n 0 r h]
            cases r <;> simp
          · simp at h
        · simp at h
      | _ => simp at h
theorem un_sound {op : UnOp} {x v : V} {a : Value} (hx : Rel P I w φ x a) (h : un op x = some v) : ∃ b, (Op.unary op a).run P w = .ok b w ∧ Rel P I w φ v b := by
  unfold un at h
  split at h
  · rename_i k n
    rw [rel_int hx]
    simp only [Option.some.injEq] at h; subst h
    exact ⟨.int k (k.wrap (0 - n)), by simp only [Op.unary, Op.intArith]; rfl, .p (by rw [wr_eq]; exact .int _ _)⟩
  · rename_i b
    rw [rel_bool hx]
    simp only [Option.some.injEq] at h; subst h
    exact ⟨_, rfl, .p (.bool _)⟩
  · simp at h
end
end Go.Ev
namespace Go.Ev
section
variable {X : Env} {I : Imm} {w : World} {φ : Phi} {m : Mem}
def allI (w : World) : Imm := fun b _ => b < w.heap.size
def OpPost (X : Env) (I : Imm) (w : World) (φ : Phi) (m : Mem) : OpR → Result Next → Prop
  | .val v m', res => ∃ x w' I' φ', res = .ok (.value x) w' ∧ Ext I w φ I' w' φ' ∧ MemOk X.P I' w' φ' m' ∧ Rel X.P I' w' φ' v x ∧ m'.out.length = m.out.length
  | .skip m', res => ∃ w' I' φ', res = .ok .skip w' ∧ Ext I w φ I' w' φ' ∧ MemOk X.P I' w' φ' m' ∧ m'.out.length = m.out.length
  | .call f args m', res => callOk X.P f = true ∧ ∃ xs : List Value, res = .ok (.enter f ⟨xs⟩) w ∧ m'.out.length = m.out.length ∧
      ((∃ I', Ext I w φ I' w φ ∧ MemOk X.P I' w φ m' ∧ All2 (Rel X.P I' w φ) args xs) ∨
        (scalarRes X.P f = true ∧ args.any V.refs = false ∧ m' = m ∧ All2 (Rel X.P (allI w) w φ) args xs))
  | .defer f cap, res => ∃ ys : List Value, res = .ok (.defer { target := .fn (.func f) ⟨ys⟩, args := #[] }) w ∧ All2 (Rel X.P I w φ) cap ys
  | .panic v, res => ∃ x, res = .halt (.panic x) w ∧ Rel X.P I w φ v x
theorem post_same {v : V} {x : Value} {res : Result Next} (hm : MemOk X.P I w φ m) (hr : Rel X.P I w φ v x) (h : res = .ok (.value x) w) : OpPost X I w φ m (.val v m) res :=
  ⟨x, w, I, φ, h, Ext.refl _ _ _, hm, hr, rfl⟩
theorem run_v {P : Program} {s : Sem Value} {x : Value} {w' : World} (h : s.run P w = .ok x w') : (do pure (Next.value (← s)) : Sem Next).run P w = .ok (.value x) w' := by
  simp [h]
theorem eqGuard_ok {P : Program} {op : BinOp} {t : TypeId} {x y : Operand} {v u : V} {a b : Value} (hv : Rel P I w φ v a) (hu : Rel P I w φ u b)
    (h : (∃ k n k' n', v = .int k n ∧ u = .int k' n') ∨ (∃ s s', v = .str s ∧ u = .str s') ∨ eqOk P t (isConst x) (isConst y) v u = true ∧ (eqT P 8 t v u).isSome = true) : (eqGuard op t x y a b).run P w = .ok () w := by
  unfold eqGuard
  by_cases hop : op = .eql ∨ op = .neq
  rotate_left
  · cases op <;> first | rfl | exact absurd (.inl rfl) hop | exact absurd (.inr rfl) hop
  · rcases hop with rfl | rfl
    all_goals
     simp only [Bool.not_true, Bool.false_eq_true, if_false]
     rcases h with ⟨k, n, k', n', rfl, rfl⟩ | ⟨s, s', rfl, rfl⟩ | ⟨h1, h2⟩
     · rw [rel_int hv, rel_int hu]; rfl
     · rw [rel_str hv, rel_str hu]; rfl
     · cases v with
       | nilI =>
         rw [rel_nilI hv]
         cases u with
         | nilI =>
           rw [rel_nilI hu]
           clear h2 hv hu
           cases x <;> cases y <;> first | rfl | (exact absurd h1 (by simp [eqOk, isConst]))
         | ifc t v => obtain ⟨z, rfl, _⟩ := rel_ifc hu; rfl
         | _ => (simp only [eqT] at h2; split at h2 <;> simp at h2)
       | agg cs =>
         obtain ⟨az, rfl, _⟩ := rel_agg hv
         cases u with
         | agg ds =>
           obtain ⟨bs, rfl, _⟩ := rel_agg hu
           simp only [eqOk, Bool.not_eq_true'] at h1
           simp [h1]
         | _ => (simp only [eqT] at h2; split at h2 <;> simp at h2)
       | bool b0 => rw [rel_bool hv]; rfl
       | ifc t0 v0 => obtain ⟨z, rfl, _⟩ := rel_ifc hv; rfl
       | nilP => rw [rel_nilP hv]; rfl
       | ptr r j off => obtain ⟨l, _, rfl⟩ := rel_ptr hv; rfl
       | int k n => rw [rel_int hv]; rfl
       | str s => rw [rel_str hv]; rfl
       | _ => (simp only [eqT] at h2; split at h2 <;> simp at h2)
theorem bin_sound {op : BinOp} {t : TypeId} {x y : Operand} {v u r : V} {a b : Value} (hv : Rel X.P I w φ v a) (hu : Rel X.P I w φ u b) (h : bin X.P op t (isConst x) (isConst y) v u = some r) :
    ∃ z, (do eqGuard op t x y a b; binOp op t a b : Sem Value).run X.P w = .ok z w ∧ Rel X.P I w φ r z := by
  unfold bin at h
  split at h
  · rename_i k n k' n'
    have hg : (eqGuard op t x y a b).run X.P w = .ok () w := eqGuard_ok hv hu (.inl ⟨k, n, k', n', rfl, rfl⟩)
    rw [rel_int hv, rel_int hu] at hg ⊢
    simp only [Sem.run_bind, hg, Result.andThen_ok]
    by_cases hs : op = .shl ∨ op = .shr
    · refine shiftBin_sound (k' := k') (op := op) ?_ hs t
      rcases hs with rfl | rfl <;> exact h
    · have hs' : op ≠ .shl ∧ op ≠ .shr := ⟨fun e => hs (.inl e), fun e => hs (.inr e)⟩
      split at h
      · exact absurd (.inl rfl) hs
      · exact absurd (.inr rfl) hs
      · split at h
        · rename_i hk; subst hk
          exact intBin_sound h hs' t
        · simp at h
  · rename_i s s'
    have hg : (eqGuard op t x y a b).run X.P w = .ok () w := eqGuard_ok hv hu (.inr (.inl ⟨s, s', rfl, rfl⟩))
    rw [rel_str hv, rel_str hu] at hg ⊢
    simp only [Sem.run_bind, hg, Result.andThen_ok]
    exact strBin_sound h t
  · rename_i hni hns
    split at h
    · rename_i hok
      have key : ∀ q, eqT X.P 8 t v u = some q → (eqGuard op t x y a b).run X.P w = .ok () w ∧ (Op.equal t a b).run X.P w = .ok q w := fun q hq =>
        ⟨eqGuard_ok hv hu (.inr (.inr ⟨hok, by rw [hq]; rfl⟩)), eqT_sound 8 10000 t v u a b q (by omega) hv hu hq⟩
      have hform : ∀ q, eqT X.P 8 t v u = some q → (binOp .eql t a b = do pure (.bool (← Op.equal t a b))) ∧ (binOp .neq t a b = do pure (.bool (!(← Op.equal t a b)))) := by
        intro q hq
        cases v with
        | int k n =>
          cases u with
          | int k' n' => exact absurd rfl (hni _ _ _ _ rfl)
          | _ => (simp only [eqT] at hq; split at hq <;> simp at hq)
        | str s =>
          cases u with
          | str s' => exact absurd rfl (hns _ _ rfl)
          | _ => (simp only [eqT] at hq; split at hq <;> simp at hq)
        | bool b0 =>
          rw [rel_bool hv]
          cases u with
          | bool b1 => rw [rel_bool hu]; exact ⟨rfl, rfl⟩
          | _ => (simp only [eqT] at hq; split at hq <;> simp at hq)
        | nilI =>
          rw [rel_nilI hv]
          cases u with
          | nilI => rw [rel_nilI hu]; exact ⟨rfl, rfl⟩
          | ifc t v => obtain ⟨z, rfl, _⟩ := rel_ifc hu; exact ⟨rfl, rfl⟩
          | _ => (simp only [eqT] at hq; split at hq <;> simp at hq)
        | ifc t0 v0 =>
          obtain ⟨z, rfl, _⟩ := rel_ifc hv
          cases u with
          | nilI => rw [rel_nilI hu]; exact ⟨rfl, rfl⟩
          | _ => (simp only [eqT] at hq; split at hq <;> simp at hq)
        | nilP =>
          rw [rel_nilP hv]
          cases u with
          | nilP => rw [rel_nilP hu]; exact ⟨rfl, rfl⟩
          | ptr r j off => obtain ⟨l, _, rfl⟩ := rel_ptr hu; exact ⟨rfl, rfl⟩
          | _ => (simp only [eqT] at hq; split at hq <;> simp at hq)
        | ptr r j off =>
          obtain ⟨l, _, rfl⟩ := rel_ptr hv
          cases u with
          | nilP => rw [rel_nilP hu]; exact ⟨rfl, rfl⟩
          | _ => (simp only [eqT] at hq; split at hq <;> simp at hq)
        | agg cs =>
          obtain ⟨az, rfl, _⟩ := rel_agg hv
          cases u with
          | agg ds => obtain ⟨bs, rfl, _⟩ := rel_agg hu; exact ⟨rfl, rfl⟩
          | _ => (simp only [eqT] at hq; split at hq <;> simp at hq)
        | _ => (simp only [eqT] at hq; split at hq <;> simp at hq)
      split at h
      · cases hq : eqT X.P 8 t v u with
        | none => simp [hq] at h
        | some q =>
          simp only [hq, Option.map_some, Option.some.injEq] at h; subst h
          obtain ⟨k1, k2⟩ := key q hq
          refine ⟨.bool q, ?_, .p (.bool _)⟩
          simp only [Sem.run_bind, k1, Result.andThen_ok, (hform q hq).1, k2, Sem.run_pure]
      · cases hq : eqT X.P 8 t v u with
        | none => simp [hq] at h
        | some q =>
          simp only [hq, Option.map_some, Option.some.injEq] at h; subst h
          obtain ⟨k1, k2⟩ := key q hq
          refine ⟨.bool (!q), ?_, .p (.bool _)⟩
          simp only [Sem.run_bind, k1, Result.andThen_ok, (hform q hq).2, k2, Sem.run_pure]
      · simp at h
    · simp at h
end
end Go.Ev
namespace Go.Ev
section
variable {X : Env} {I : Imm} {w : World} {φ : Phi} {m : Mem} {t : Tm} {a : Act} {o : Oper} {r : OpR}
theorem op_move {x : Operand} (hm : MemOk X.P I w φ m) (ht : TmOk X I w φ t a) (hg : GlobOk X I w) (hop : o.op = .move x) (e : evOp X m t o = some r) :
    OpPost X I w φ m r ((execOp a.eval o).run X.P w) := by
  simp only [evOp, hop, Option.some.injEq] at e; subst e
  exact post_same hm (opd_rel ht hg x) (by simp only [execOp, hop]; rfl)
theorem op_pick {c x y : Operand} (hm : MemOk X.P I w φ m) (ht : TmOk X I w φ t a) (hg : GlobOk X I w) (hop : o.op = .pick c x y) (e : evOp X m t o = some r) :
    OpPost X I w φ m r ((execOp a.eval o).run X.P w) := by
  simp only [evOp, hop] at e
  split at e
  · rename_i b hb
    simp only [Option.some.injEq] at e; subst e
    have hc := opd_rel ht hg c
    rw [hb] at hc
    have hc := rel_bool hc
    refine post_same hm (x := if b then a.eval x else a.eval y) ?_ (by simp only [execOp, hop, hc, asBool]; cases b <;> simp)
    cases b
    · exact opd_rel ht hg y
    · exact opd_rel ht hg x
  · simp at e
theorem op_nilCheck {x : Operand} (hm : MemOk X.P I w φ m) (ht : TmOk X I w φ t a) (hg : GlobOk X I w) (hop : o.op = .nilCheck x) (e : evOp X m t o = some r) :
    OpPost X I w φ m r ((execOp a.eval o).run X.P w) := by
  simp only [evOp, hop] at e
  have hx := opd_rel ht hg x
  split at e
  · rename_i r0 j off h0
    simp only [Option.some.injEq] at e; subst e
    rw [h0] at hx
    refine post_same hm (x := a.eval x) hx ?_
    obtain ⟨l, _, he⟩ := rel_ptr hx
    simp only [execOp, hop, he]; rfl
  · rename_i e0 ty off h0
    simp only [Option.some.injEq] at e; subst e
    rw [h0] at hx
    refine post_same hm (x := a.eval x) hx ?_
    obtain ⟨b, o, xs, he, _⟩ := rel_cptr hx
    simp only [execOp, hop, he]; rfl
  · rename_i f b c h0
    simp only [Option.some.injEq] at e; subst e
    rw [h0] at hx
    refine post_same hm (x := a.eval x) hx ?_
    obtain ⟨xs, ys, he, _⟩ := rel_fn hx
    simp only [execOp, hop, he]; rfl
  · simp at e
theorem op_binOp {b : BinOp} {ty uy : TypeId} {x y : Operand} (hm : MemOk X.P I w φ m) (ht : TmOk X I w φ t a) (hg : GlobOk X I w) (hop : o.op = .binOp b ty x y uy) (e : evOp X m t o = some r) :
    OpPost X I w φ m r ((execOp a.eval o).run X.P w) := by
  simp only [evOp, hop] at e
  cases hb : bin X.P b ty (isConst x) (isConst y) (opd X t x) (opd X t y) with
  | none => simp [hb] at e
  | some v =>
    simp only [hb, Option.map_some, Option.some.injEq] at e; subst e
    obtain ⟨z, hz, hr⟩ := bin_sound (opd_rel ht hg x) (opd_rel ht hg y) hb
    exact post_same hm hr (by simp only [execOp, hop]; exact run_v hz)
theorem op_unOp {b : UnOp} {ty : TypeId} {x : Operand} (hm : MemOk X.P I w φ m) (ht : TmOk X I w φ t a) (hg : GlobOk X I w) (hop : o.op = .unOp b ty x) (e : evOp X m t o = some r) :
    OpPost X I w φ m r ((execOp a.eval o).run X.P w) := by
  simp only [evOp, hop] at e
  cases hb : un b (opd X t x) with
  | none => simp [hb] at e
  | some v =>
    simp only [hb, Option.map_some, Option.some.injEq] at e; subst e
    obtain ⟨z, hz, hr⟩ := un_sound (opd_rel ht hg x) hb
    exact post_same hm hr (by simp only [execOp, hop]; exact run_v hz)
theorem op_convert {src dst : TypeId} {x : Operand} (hm : MemOk X.P I w φ m) (ht : TmOk X I w φ t a) (hg : GlobOk X I w) (hop : o.op = .convert src dst x) (e : evOp X m t o = some r) :
    OpPost X I w φ m r ((execOp a.eval o).run X.P w) := by
  simp only [evOp, hop] at e
  split at e
  · rename_i d k k' n h1 h2 h3
    simp only [Option.some.injEq] at e; subst e
    have hx := opd_rel ht hg x
    rw [h3] at hx
    have hx := rel_int hx
    refine post_same hm (x := .int k (k.wrap n)) (by rw [wr_eq]; exact .p (.int _ _)) ?_
    simp only [execOp, hop]
    refine run_v ?_
    simp only [convert, Sem.run_bind, run_underlying h1, run_underlying h2, Result.andThen_ok, hx]
    rfl
  · simp at e
theorem op_makeInterface {ty : TypeId} {x : Operand} (hm : MemOk X.P I w φ m) (ht : TmOk X I w φ t a) (hg : GlobOk X I w) (hop : o.op = .makeInterface ty x) (e : evOp X m t o = some r) :
    OpPost X I w φ m r ((execOp a.eval o).run X.P w) := by
  simp only [evOp, hop] at e
  have hx := opd_rel ht hg x
  split at e
  · rename_i k k' n h1 h2
    simp only [Option.some.injEq] at e; subst e
    rw [h2] at hx
    have hx := rel_int hx
    refine post_same hm (x := .iface ty (.int k' n)) (.p (.ifc (.int _ _))) ?_
    simp only [execOp, hop]
    refine run_v ?_
    simp only [Instr.makeInterface, Sem.run_bind, run_underlying h1, Result.andThen_ok, hx]
    rfl
  · rename_i s h1 h2
    simp only [Option.some.injEq] at e; subst e
    rw [h2] at hx
    have hx := rel_str hx
    refine post_same hm (x := .iface ty (.string ⟨s.toArray⟩)) (.p (.ifc (.str _))) ?_
    simp only [execOp, hop]
    refine run_v ?_
    simp only [Instr.makeInterface, Sem.run_bind, run_underlying h1, Result.andThen_ok, hx]
    rfl
  · simp at e
theorem op_extract {x : Operand} {i : Nat} (hm : MemOk X.P I w φ m) (ht : TmOk X I w φ t a) (hg : GlobOk X I w) (hop : o.op = .extract x i) (e : evOp X m t o = some r) :
    OpPost X I w φ m r ((execOp a.eval o).run X.P w) := by
  simp only [evOp, hop] at e
  have hx := opd_rel ht hg x
  split at e
  · rename_i vs h0
    cases hv : vs[i]? with
    | none => simp [hv] at e
    | some v =>
      simp only [hv, Option.map_some, Option.some.injEq] at e; subst e
      rw [h0] at hx
      obtain ⟨xs, he, hl, hp⟩ := rel_tup hx
      obtain ⟨y, hy, hr⟩ := All2.get ⟨hl, hp⟩ hv
      refine post_same hm (x := y) hr ?_
      simp only [execOp, hop, he]
      refine run_v ?_
      have : (⟨xs⟩ : Array Value)[i]? = some y := by simpa using hy
      simp only [Instr.extract, this]
      rfl
  · simp at e
theorem op_fieldAddr {ty : TypeId} {x : Operand} {f : Nat} (hm : MemOk X.P I w φ m) (ht : TmOk X I w φ t a) (hg : GlobOk X I w) (hop : o.op = .fieldAddr ty x f) (e : evOp X m t o = some r) :
    OpPost X I w φ m r ((execOp a.eval o).run X.P w) := by
  simp only [evOp, hop] at e
  have hx := opd_rel ht hg x
  split at e
  · rename_i fs hu
    split at e
    · rename_i fd hf
      split at e
      · simp at e
      · rename_i hz
        have hsz : ∃ d, X.P.info? fd.type = some d := by
          cases hi : X.P.info? fd.type with
          | none => simp [Program.cellsOf, hi] at hz
          | some d => exact ⟨d, rfl⟩
        obtain ⟨di, hdi⟩ := hsz
        have run : ∀ (b off : Nat), (Instr.fieldAt ty (.pointer (some ⟨b, off, none⟩)) f).run X.P w = .ok (.pointer (some ⟨b, off + fd.offset, none⟩)) w := by
          intro b off
          simp only [Instr.fieldAt, Sem.run_bind, run_underlying hu, Result.andThen_ok, hf, Instr.sureAddr, Sem.run_pure, fieldPlace, run_sizeOf w hdi, hz, if_false, Sem.run_ite, add_off]
        split at e
        · rename_i r0 j off h0
          simp only [Option.some.injEq] at e; subst e
          rw [h0] at hx
          obtain ⟨l, hl, he⟩ := rel_ptr hx
          refine post_same hm (x := .pointer (some ⟨l.b, l.base + j * l.z + (off + fd.offset), none⟩)) (.ptr hl) ?_
          simp only [execOp, hop, he]
          refine run_v ?_
          rw [run, Nat.add_assoc]
        · rename_i e0 ety off h0
          simp only [Option.some.injEq] at e; subst e
          rw [h0] at hx
          obtain ⟨b, o', xs, he, h1, h2⟩ := rel_cptr hx
          refine post_same hm (x := .pointer (some ⟨b, o' + (off + fd.offset), none⟩)) (.p (.cptr xs h1 h2)) ?_
          simp only [execOp, hop, he]
          refine run_v ?_
          rw [run, Nat.add_assoc]
        · simp at e
    · simp at e
  · simp at e
theorem op_field {ty : TypeId} {x : Operand} {f : Nat} (hm : MemOk X.P I w φ m) (ht : TmOk X I w φ t a) (hg : GlobOk X I w) (hop : o.op = .field ty x f) (e : evOp X m t o = some r) :
    OpPost X I w φ m r ((execOp a.eval o).run X.P w) := by
  simp only [evOp, hop] at e
  have hx := opd_rel ht hg x
  split at e
  · rename_i fs hu
    split at e
    · rename_i fd cs hf h0
      cases hp : Ev.part X.P fd.type cs fd.offset with
      | none => simp [hp] at e
      | some v =>
        simp only [hp, Option.map_some, Option.some.injEq] at e; subst e
        rw [h0] at hx
        obtain ⟨xs, he, hl, hq, ho⟩ := rel_agg hx
        obtain ⟨y, hy, hr⟩ := part_sound ⟨hl, hq⟩ ho hp
        refine post_same hm (x := y) hr ?_
        simp only [execOp, hop, he]
        refine run_v ?_
        simp only [Instr.field, Sem.run_bind, run_underlying hu, Result.andThen_ok, hf, asAgg, Sem.run_pure, hy]
    · simp at e
  · simp at e
theorem idx_eq {v : V} {x : Value} {i : Int} (hx : Rel X.P I w φ v x) (h : idx v = some i) : ∃ k, x = .int k i := by
  cases v <;> simp only [idx, Option.some.injEq, reduceCtorEq] at h
  subst h; exact ⟨_, rel_int hx⟩
theorem bytes_get {s : List UInt8} {i : Nat} {b : UInt8} (hb : s[i]? = some b) : (⟨s.toArray⟩ : ByteArray)[i]? = some b := by
  have hlt : i < s.length := by
    rcases Nat.lt_or_ge i s.length with h | h
    · exact h
    · simp [List.getElem?_eq_none h] at hb
  have hsz : i < (⟨s.toArray⟩ : ByteArray).size := by simpa [ByteArray.size] using hlt
  have h1 : (⟨s.toArray⟩ : ByteArray)[i]? = some (⟨s.toArray⟩ : ByteArray)[i] := getElem?_pos (⟨s.toArray⟩ : ByteArray) i hsz
  rw [h1]
  have h2 : s[i]? = some s[i] := by simp [hlt]
  rw [hb] at h2
  rw [Option.some.inj h2]
  rfl
theorem op_index {ty : TypeId} {x y : Operand} (hm : MemOk X.P I w φ m) (ht : TmOk X I w φ t a) (hg : GlobOk X I w) (hop : o.op = .index ty x y) (e : evOp X m t o = some r) :
    OpPost X I w φ m r ((execOp a.eval o).run X.P w) := by
  simp only [evOp, hop] at e
  have hx := opd_rel ht hg x
  have hy := opd_rel ht hg y
  split at e
  · rename_i i s hi hu h0
    obtain ⟨k, hk⟩ := idx_eq hy hi
    split at e
    · rename_i h0i
      split at e
      · rename_i b hb
        simp only [Option.some.injEq] at e; subst e
        rw [h0] at hx
        have hx := rel_str hx
        refine post_same hm (x := .int .u8 b.toNat) (.p (.int _ _)) ?_
        simp only [execOp, hop, hx, hk]
        refine run_v ?_
        have hget := bytes_get hb
        simp only [Instr.index, asIntOf, Sem.run_bind, Sem.run_pure, Result.andThen_ok, run_underlying hu, h0i, if_true, hget]
      · simp at e
    · simp at e
  · rename_i i n el cs hi hu h0
    obtain ⟨k, hk⟩ := idx_eq hy hi
    split at e
    · rename_i h0i
      cases hp : Ev.part X.P el cs (i.toNat * X.P.cellsOf el) with
      | none => simp [hp] at e
      | some v =>
        simp only [hp, Option.map_some, Option.some.injEq] at e; subst e
        rw [h0] at hx
        obtain ⟨xs, he, hl, hq, ho⟩ := rel_agg hx
        obtain ⟨z, hz, hr⟩ := part_sound ⟨hl, hq⟩ ho hp
        have hag : ∃ b, aggT X.P el = some b := by
          unfold Ev.part at hp
          cases hh : aggT X.P el with
          | none => simp [hh] at hp
          | some b => exact ⟨b, rfl⟩
        obtain ⟨bb, hb⟩ := hag
        obtain ⟨d, hd⟩ := aggT_some hb
        refine post_same hm (x := z) hr ?_
        simp only [execOp, hop, he, hk]
        refine run_v ?_
        simp only [Instr.index, asIntOf, Sem.run_bind, Sem.run_pure, Result.andThen_ok, run_underlying hu, h0i, and_self, if_true, run_sizeOf' hd, hz]
    · simp at e
  · simp at e
theorem zero_run {P : Program} {ty : TypeId} {z : V} (h : zeroOf P ty = some z) : ∃ x, (zeroValue ty).run P w = .ok x w ∧ z = ofValue x ∧ ty ≠ 0 ∧ z.ok1 = true ∧ z.cells.all V.ok1 = true ∧ z.width = P.cellsOf ty := by
  unfold zeroOf at h
  cases hi : P.info? ty with
  | none => simp [hi] at h
  | some i =>
    cases hz : i.zero with
    | none => simp [hi, hz] at h
    | some x =>
      simp only [hi, hz, Option.bind_some] at h
      split at h
      · rename_i hc
        simp only [Option.some.injEq] at h
        subst h
        exact ⟨x, by simp [zeroValue, typeInfo, hi, hz], rfl, hc⟩
      · simp at h
theorem op_typeAssert {x : Operand} {xt ty : TypeId} {ok : Bool} (hm : MemOk X.P I w φ m) (ht : TmOk X I w φ t a) (hg : GlobOk X I w) (hop : o.op = .typeAssert x xt ty ok) (e : evOp X m t o = some r) :
    OpPost X I w φ m r ((execOp a.eval o).run X.P w) := by
  simp only [evOp, hop] at e
  have hx := opd_rel ht hg x
  split at e
  · rename_i ms k ty' v h1 h2 h3
    rw [h3] at hx
    obtain ⟨y, he, hy⟩ := rel_ifc hx
    split at e
    · rename_i hty
      subst hty
      simp only [Option.some.injEq] at e; subst e
      refine post_same hm (x := .tuple #[y, .bool true]) (.p ?_) ?_
      · have := All2.cons hy (All2.cons (RelP.bool (I := I) (w := w) true) .nil)
        exact .tup this.1 this.2
      · simp only [execOp, hop, he]
        refine run_v ?_
        simp only [Instr.typeAssert, Sem.run_bind, run_underlying h2, Result.andThen_ok, if_true]
        rfl
    · rename_i hty
      split at e
      · rename_i z hz
        simp only [Option.some.injEq] at e; subst e
        obtain ⟨zx, hzx, rfl, _⟩ := zero_run (w := w) hz
        refine post_same hm (x := .tuple #[zx, .bool false]) (.p ?_) ?_
        · have := All2.cons (relP_ofValue (I := I) (w := w) zx) (All2.cons (RelP.bool (I := I) (w := w) false) .nil)
          exact .tup this.1 this.2
        · simp only [execOp, hop, he]
          refine run_v ?_
          simp only [Instr.typeAssert, Sem.run_bind, run_underlying h2, Result.andThen_ok, hty, if_false, if_true, hzx]
          rfl
      · simp at e
  · simp at e
theorem bounds_eq {len : Nat} {lo hi : Option V} {p : Nat × Nat} (h : bounds len lo hi = some p) :
    ∃ l h' : Int, loOf lo = some l ∧ hiOf len hi = some h' ∧ 0 ≤ l ∧ l ≤ h' ∧ h' ≤ len ∧ p = (l.toNat, h'.toNat) := by
  unfold bounds at h
  split at h
  · rename_i l h' e1 e2
    split at h
    · rename_i hc
      simp only [Option.some.injEq] at h
      exact ⟨l, h', e1, e2, hc.1, hc.2.1, hc.2.2, h.symm⟩
    · simp at h
  · simp at h
theorem run_bounds {isSlice : Bool} {len cap : Nat} {lo hi : Option V} {lo' hi' : Option Value} {p : Nat × Nat} (hc : len ≤ cap) (h : bounds len lo hi = some p)
    (hlo : ∀ v, lo = some v → ∃ x, lo' = some x ∧ Rel X.P I w φ v x) (hlo0 : lo = none → lo' = none) (hhi : ∀ v, hi = some v → ∃ x, hi' = some x ∧ Rel X.P I w φ v x) (hhi0 : hi = none → hi' = none) :
    (Instr.sliceBounds isSlice len cap lo' hi' none).run X.P w = .ok (p.1, p.2, cap) w ∧ p.1 ≤ p.2 ∧ p.2 ≤ len := by
  obtain ⟨l, h', e1, e2, h0, h1, h2, rfl⟩ := bounds_eq h
  have hb : ∀ (x : Value) (i : Int) (y : Nat) (c : BoundsCode), (∃ k, x = .int k i) → 0 ≤ i → i ≤ y → (Instr.sliceBound x y c).run X.P w = .ok i.toNat w := by
    rintro x i y c ⟨k, rfl⟩ a b
    simp only [Instr.sliceBound, asIntOf, Sem.run_bind, Sem.run_pure, Result.andThen_ok, a, b, and_self, if_true]
  refine ⟨?_, by simp only; omega, by simp only; omega⟩
  have fh : (hi' = none ∧ h' = len) ∨ ∃ k, hi' = some (.int k h') := by
    cases hi with
    | none => exact .inl ⟨hhi0 rfl, by simpa [hiOf] using e2.symm⟩
    | some v =>
      obtain ⟨x, hx, hr⟩ := hhi v rfl
      obtain ⟨k, rfl⟩ := idx_eq hr e2
      exact .inr ⟨k, hx⟩
  have fl : (lo' = none ∧ l = 0) ∨ ∃ k, lo' = some (.int k l) := by
    cases lo with
    | none => exact .inl ⟨hlo0 rfl, by simpa [loOf] using e1.symm⟩
    | some v =>
      obtain ⟨x, hx, hr⟩ := hlo v rfl
      obtain ⟨k, rfl⟩ := idx_eq hr e1
      exact .inr ⟨k, hx⟩
  have r1 : ∀ k c, (Instr.sliceBound (.int k h') cap c).run X.P w = .ok h'.toNat w := fun k c => hb _ _ _ _ ⟨k, rfl⟩ (by omega) (by omega)
  have r2 : ∀ k c, (Instr.sliceBound (.int k l) h'.toNat c).run X.P w = .ok l.toNat w := fun k c => hb _ _ _ _ ⟨k, rfl⟩ (by omega) (by omega)
  unfold Instr.sliceBounds
  rcases fh with ⟨rfl, rfl⟩ | ⟨k, rfl⟩
  · rcases fl with ⟨rfl, rfl⟩ | ⟨k2, rfl⟩
    · simp
    · have := r2 k2 .sliceB
      simp only [Int.toNat_natCast] at this
      simp [this]
  · rcases fl with ⟨rfl, rfl⟩ | ⟨k2, rfl⟩
    · cases isSlice <;> simp [r1]
    · cases isSlice <;> simp [r1, r2]
end
end Go.Ev
namespace Go.Ev
section
variable {X : Env} {I : Imm} {w : World} {φ : Phi} {m : Mem} {t : Tm} {a : Act} {o : Oper} {r : OpR}
theorem slElem_some {P : Program} {t e : TypeId} (h : slElem P t = some e) : P.underlying t = some (.slice e) := by
  unfold slElem at h
  split at h
  · rename_i e' he; simp only [Option.some.injEq] at h; subst h; exact he
  · simp at h
theorem okT_size {P : Program} {e : TypeId} (h : okT P e = true) (w : World) : (sizeOf e).run P w = .ok (P.cellsOf e) w := by
  unfold okT at h
  cases hi : P.info? e with
  | none => simp [hi] at h
  | some i => exact run_sizeOf w hi
theorem opt_rel (ht : TmOk X I w φ t a) (hg : GlobOk X I w) (lo : Option Operand) :
    (∀ v, lo.map (opd X t) = some v → ∃ x, lo.map a.eval = some x ∧ Rel X.P I w φ v x) ∧ (lo.map (opd X t) = none → lo.map a.eval = none) := by
  cases lo with
  | none => exact ⟨fun v h => by simp at h, fun _ => rfl⟩
  | some x => exact ⟨fun v h => by simp only [Option.map_some, Option.some.injEq] at h; subst h; exact ⟨_, rfl, opd_rel ht hg x⟩, fun h => by simp at h⟩
theorem cut_cut (es : List V) (l h : Nat) : ∀ (j : Nat) (e : V), (cut es l (h - l))[j]? = some e → es[l + j]? = some e := fun j e he => (cut_get _ _ _ _ _ he).1
theorem extract_bytes (s : List UInt8) (l h : Nat) (hl : l ≤ h) (hh : h ≤ s.length) : (⟨s.toArray⟩ : ByteArray).extract l h = ⟨((s.drop l).take (h - l)).toArray⟩ := by
  apply ByteArray.ext
  apply Array.ext'
  simp [ByteArray.data_extract, List.extract_eq_take_drop]
theorem sliceAt_eq {ty : TypeId} {d : TypeDesc} (hu : X.P.underlying ty = some d) (hd : (∃ e, d = .slice e) ∨ d = .string) (x : Value) (lo hi : Option Value) :
    (Instr.sliceAt ty x lo hi none).run X.P w = (Instr.slice ty x lo hi none).run X.P w := by
  unfold Instr.sliceAt
  rcases hd with ⟨e, rfl⟩ | rfl <;> simp only [Sem.run_bind, run_underlying hu, Result.andThen_ok]
theorem op_slice {ty : TypeId} {x : Operand} {lo hi mx : Option Operand} (hm : MemOk X.P I w φ m) (ht : TmOk X I w φ t a) (hg : GlobOk X I w) (hop : o.op = .slice ty x lo hi mx) (e : evOp X m t o = some r) :
    OpPost X I w φ m r ((execOp a.eval o).run X.P w) := by
  cases mx with
  | some v => simp only [evOp, hop, reduceCtorEq] at e
  | none =>
    simp only [evOp, hop] at e
    have hx := opd_rel ht hg x
    obtain ⟨hl1, hl2⟩ := opt_rel ht hg lo
    obtain ⟨hh1, hh2⟩ := opt_rel ht hg hi
    split at e
    · rename_i s h0
      rw [h0] at hx
      have hx := rel_str hx
      split at e
      · rename_i p hu hb
        simp only [Option.some.injEq] at e; subst e
        obtain ⟨hr, h1, h2⟩ := run_bounds (X := X) (isSlice := false) (Nat.le_refl s.length) hb hl1 hl2 hh1 hh2
        refine post_same hm (x := .string ⟨((s.drop p.1).take (p.2 - p.1)).toArray⟩) (.p (.str _)) ?_
        simp only [execOp, hop, hx]
        refine run_v ?_
        rw [Option.map_none, sliceAt_eq hu (.inr rfl)]
        have hsz : (⟨s.toArray⟩ : ByteArray).size = s.length := by simp [ByteArray.size]
        simp only [Option.map_none, Instr.slice, Sem.run_bind, run_underlying hu, Result.andThen_ok, hsz, hr, Option.isSome_none, Bool.false_eq_true, if_false, Sem.run_pure]
        rw [extract_bytes s p.1 p.2 h1 h2]
      · simp at e
    · rename_i es h0
      rw [h0] at hx
      obtain ⟨ad, cap, he, hcap, hes⟩ := rel_sl hx
      split at e
      · rename_i el p hel hb
        split at e
        · rename_i hc
          obtain ⟨hw, hok⟩ := hc
          simp only [Option.some.injEq] at e; subst e
          have hu := slElem_some hel
          obtain ⟨hr, h1, h2⟩ := run_bounds (X := X) (isSlice := true) hcap hb hl1 hl2 hh1 hh2
          have run : (Instr.slice ty (.slice ad es.length cap) (lo.map a.eval) (hi.map a.eval) none).run X.P w =
              .ok (.slice (if cap = p.1 then ad else ad.map (·.add (p.1 * X.P.cellsOf el))) (p.2 - p.1) (cap - p.1)) w := by
            simp only [Instr.slice, Sem.run_bind, run_underlying hu, Result.andThen_ok, hr, okT_size hok, Sem.run_pure]
          have hlen := cut_length es p.1 (p.2 - p.1) (by omega)
          by_cases hzero : p.2 - p.1 = 0
          · have hnil : cut es p.1 (p.2 - p.1) = [] := by rw [hzero]; simp [cut]
            rw [hnil]
            refine post_same hm (x := .slice (if cap = p.1 then ad else ad.map (·.add (p.1 * X.P.cellsOf el))) 0 (cap - p.1)) (.p .slNil) ?_
            simp only [execOp, hop, he]
            refine run_v ?_
            rw [Option.map_none, sliceAt_eq hu (.inl ⟨_, rfl⟩), run, hzero]
          · rcases hes with rfl | ⟨b, of, z, xs, rfl, g1, g2, g3⟩
            · simp at h2; omega
            · have hz : z = X.P.cellsOf el := by
                have h00 : 0 < es.length := by omega
                have := g1 0 es[0] (by simp [h00])
                rw [← this]
                have := List.all_eq_true.1 hw es[0] (by simp)
                simpa using this
              have hne : ¬ cap = p.1 := by omega
              refine post_same hm (x := .slice (some ⟨b, of + p.1 * z, none⟩) (cut es p.1 (p.2 - p.1)).length (cap - p.1)) (.p ?_) ?_
              · refine .sl (z := z) (fun j c => xs (p.1 + j) c) (by omega) ?_ ?_ ?_
                · intro j e' hj; exact g1 _ _ (cut_get _ _ _ _ _ hj).1
                · intro j e' c v hj hcv
                  have := g2 _ _ c v (cut_get _ _ _ _ _ hj).1 hcv
                  rw [show of + p.1 * z + j * z + c = of + (p.1 + j) * z + c by rw [Nat.add_mul]; omega]
                  exact this
                · intro j e' c v hj hcv
                  exact g3 _ _ c v (cut_get _ _ _ _ _ hj).1 hcv
              · simp only [execOp, hop, he]
                refine run_v ?_
                rw [Option.map_none, sliceAt_eq hu (.inl ⟨_, rfl⟩), run, hlen, if_neg hne, hz, Option.map_some, add_off]
        · simp at e
      · simp at e
    · rename_i r0 rty off len h0
      rw [h0] at hx
      split at e
      · rename_i el p hel hb
        split at e
        · rename_i hc
          obtain ⟨hty, hok⟩ := hc
          simp only [Option.some.injEq] at e; subst e
          have hu := slElem_some hel
          have run : ∀ (ad : Option Addr) (cap : Nat), len ≤ cap → (Instr.slice ty (.slice ad len cap) (lo.map a.eval) (hi.map a.eval) none).run X.P w =
              .ok (.slice (if cap = p.1 then ad else ad.map (·.add (p.1 * X.P.cellsOf el))) (p.2 - p.1) (cap - p.1)) w ∧ p.1 ≤ p.2 ∧ p.2 ≤ len := by
            intro ad cap hcap
            obtain ⟨hr, h1, h2⟩ := run_bounds (X := X) (isSlice := true) hcap hb hl1 hl2 hh1 hh2
            refine ⟨?_, h1, h2⟩
            simp only [Instr.slice, Sem.run_bind, run_underlying hu, Result.andThen_ok, hr, okT_size hok, Sem.run_pure]
          rcases rel_rs hx with ⟨hl, rfl, rfl, he⟩ | ⟨l, hl, hcap, hz, he⟩ | ⟨l, ad, hl, hoff, rfl, he⟩
          · obtain ⟨hrun, h1, h2⟩ := run none 0 (Nat.le_refl _)
            have e1 : p.1 = 0 := by omega
            have e2 : p.2 = 0 := by omega
            refine post_same hm (x := .slice none 0 0) ?_ ?_
            · rw [e1, e2]; exact .rsNil hl
            · simp only [execOp, hop, he]
              refine run_v ?_
              rw [Option.map_none, sliceAt_eq hu (.inl ⟨_, rfl⟩), hrun, e1, e2]
              rfl
          · obtain ⟨hrun, h1, h2⟩ := run (some ⟨l.b, l.base + off * l.z, none⟩) (l.cap - off) (by omega)
            by_cases hend : l.cap - off = p.1
            · by_cases hp : 0 < off + p.1
              · have e2 : p.2 - p.1 = 0 := by omega
                refine post_same hm (x := .slice (some ⟨l.b, l.base + off * l.z, none⟩) 0 0) ?_ ?_
                · rw [e2]; exact .rsE hl hp
                · simp only [execOp, hop, he]
                  refine run_v ?_
                  rw [Option.map_none, sliceAt_eq hu (.inl ⟨_, rfl⟩), hrun, if_pos hend, e2, hend, Nat.sub_self]
              · have e0 : off = 0 := by omega
                have e1 : p.1 = 0 := by omega
                have e2 : p.2 = 0 := by omega
                subst e0
                refine post_same hm (x := .slice (some ⟨l.b, l.base + 0 * l.z, none⟩) 0 (l.cap - 0)) ?_ ?_
                · rw [e1, e2]; exact .rs hl (by omega) hz
                · simp only [execOp, hop, he]
                  refine run_v ?_
                  rw [Option.map_none, sliceAt_eq hu (.inl ⟨_, rfl⟩), hrun, e1, e2]
                  simp [Addr.add]
            · refine post_same hm (x := .slice (some ⟨l.b, l.base + (off + p.1) * l.z, none⟩) (p.2 - p.1) (l.cap - (off + p.1))) (.rs hl (by omega) hz) ?_
              simp only [execOp, hop, he]
              refine run_v ?_
              rw [Option.map_none, sliceAt_eq hu (.inl ⟨_, rfl⟩), hrun, if_neg hend, Option.map_some, add_off, Nat.sub_sub]
              rcases hty with rfl | h0
              · rw [hz, Nat.add_mul, Nat.add_assoc]
              · rw [h0]; simp
          · obtain ⟨hrun, h1, h2⟩ := run ad 0 (Nat.le_refl _)
            have e1 : p.1 = 0 := by omega
            have e2 : p.2 = 0 := by omega
            refine post_same hm (x := .slice ad 0 0) ?_ ?_
            · rw [e1, e2]; exact .rsE hl (by omega)
            · simp only [execOp, hop, he]
              refine run_v ?_
              rw [Option.map_none, sliceAt_eq hu (.inl ⟨_, rfl⟩), hrun, e1, e2]
              simp
        · simp at e
      · simp at e
    · rename_i h0
      rw [h0] at hx
      have he := rel_nilS hx
      split at e
      · rename_i el p hel hb
        split at e
        · rename_i hok
          simp only [Option.some.injEq] at e; subst e
          have hu := slElem_some hel
          obtain ⟨hr, h1, h2⟩ := run_bounds (X := X) (isSlice := true) (Nat.le_refl 0) hb hl1 hl2 hh1 hh2
          have e1 : p.1 = 0 := by omega
          have e2 : p.2 = 0 := by omega
          refine post_same hm (x := .slice none 0 0) (.p .nilS) ?_
          simp only [execOp, hop, he]
          refine run_v ?_
          rw [Option.map_none, sliceAt_eq hu (.inl ⟨_, rfl⟩)]
          simp only [Option.map_none, Instr.slice, Sem.run_bind, run_underlying hu, Result.andThen_ok, hr, okT_size hok, Sem.run_pure, e1, e2]
          rfl
        · simp at e
      · simp at e
    · simp at e
theorem op_indexAddr {ty : TypeId} {x y : Operand} (hm : MemOk X.P I w φ m) (ht : TmOk X I w φ t a) (hg : GlobOk X I w) (hop : o.op = .indexAddr ty x y) (e : evOp X m t o = some r) :
    OpPost X I w φ m r ((execOp a.eval o).run X.P w) := by
  simp only [evOp, hop] at e
  have hx := opd_rel ht hg x
  have hy := opd_rel ht hg y
  split at e
  · rename_i i el hi hu
    obtain ⟨k, hk⟩ := idx_eq hy hi
    have run : ∀ (b off len cap : Nat), 0 ≤ i → i < len → okT X.P el = true → (Instr.indexAt ty (.slice (some ⟨b, off, none⟩) len cap) (.int k i)).run X.P w = .ok (.pointer (some ⟨b, off + i.toNat * X.P.cellsOf el, none⟩)) w := by
      intro b off len cap h0 h1 hok
      simp only [Instr.indexAt, asIntOf, Sem.run_bind, Sem.run_pure, Result.andThen_ok, run_underlying hu, h0, h1, and_self, if_true, okT_size hok, add_off]
    split at e
    · rename_i r0 rty off len h0
      rw [h0] at hx
      split at e
      · rename_i hc
        obtain ⟨h1, h2, rfl, hok⟩ := hc
        simp only [Option.some.injEq] at e; subst e
        rcases rel_rs hx with ⟨hl, rfl, rfl, he⟩ | ⟨l, hl, hcap, hz, he⟩ | ⟨l, ad, hl, hoff, rfl, he⟩
        · simp at h2; omega
        · refine post_same hm (x := .pointer (some ⟨l.b, l.base + (off + i.toNat) * l.z + 0, none⟩)) (.ptr hl) ?_
          simp only [execOp, hop, he, hk]
          refine run_v ?_
          rw [run _ _ _ _ h1 h2 hok, hz, Nat.add_mul, Nat.add_zero, Nat.add_assoc]
        · simp at h2; omega
      · simp at e
    · rename_i es h0
      rw [h0] at hx
      obtain ⟨ad, cap, he, hcap, hes⟩ := rel_sl hx
      split at e
      · rename_i h1
        split at e
        · rename_i v hv
          split at e
          · rename_i hc
            obtain ⟨hw, hok⟩ := hc
            simp only [Option.some.injEq] at e; subst e
            rcases hes with rfl | ⟨b, of, z, xs, rfl, g1, g2, g3⟩
            · simp at hv
            · have hz : z = X.P.cellsOf el := by rw [← g1 _ v hv, hw]
              have hlt : i < es.length := by
                rcases Nat.lt_or_ge i.toNat es.length with h | h
                · omega
                · simp [List.getElem?_eq_none h] at hv
              refine post_same hm (x := .pointer (some ⟨b, (of + i.toNat * z) + 0, none⟩)) (.p ?_) ?_
              · exact .cptr (xs i.toNat) (fun c u hc => g2 _ v c u hv hc) (fun c u hc => g3 _ v c u hv hc)
              · simp only [execOp, hop, he, hk]
                refine run_v ?_
                rw [run _ _ _ _ h1 hlt hok, hz, Nat.add_zero]
          · simp at e
        · simp at e
      · simp at e
    · simp at e
  · rename_i i n el hi hu
    obtain ⟨k, hk⟩ := idx_eq hy hi
    split at e
    · rename_i hc
      obtain ⟨h1, h2, hok⟩ := hc
      have run : ∀ (b off : Nat), (Instr.indexAt ty (.pointer (some ⟨b, off, none⟩)) (.int k i)).run X.P w = .ok (.pointer (some ⟨b, off + i.toNat * X.P.cellsOf el, none⟩)) w := by
        intro b off
        simp only [Instr.indexAt, asIntOf, Sem.run_bind, Sem.run_pure, Result.andThen_ok, run_underlying hu, Instr.sureAddr, h1, h2, and_self, if_true, okT_size hok, add_off]
      split at e
      · rename_i r0 j off h0
        simp only [Option.some.injEq] at e; subst e
        rw [h0] at hx
        obtain ⟨l, hl, he⟩ := rel_ptr hx
        refine post_same hm (x := .pointer (some ⟨l.b, l.base + j * l.z + (off + i.toNat * X.P.cellsOf el), none⟩)) (.ptr hl) ?_
        simp only [execOp, hop, he, hk]
        refine run_v ?_
        rw [run, Nat.add_assoc]
      · rename_i e0 ety off h0
        simp only [Option.some.injEq] at e; subst e
        rw [h0] at hx
        obtain ⟨b, of, xs, he, g1, g2⟩ := rel_cptr hx
        refine post_same hm (x := .pointer (some ⟨b, of + (off + i.toNat * X.P.cellsOf el), none⟩)) (.p (.cptr xs g1 g2)) ?_
        simp only [execOp, hop, he, hk]
        refine run_v ?_
        rw [run, Nat.add_assoc]
      · simp at e
    · simp at e
  · simp at e
theorem op_load {ty : TypeId} {x : Operand} (hm : MemOk X.P I w φ m) (ht : TmOk X I w φ t a) (hg : GlobOk X I w) (hop : o.op = .load ty x) (e : evOp X m t o = some r) :
    OpPost X I w φ m r ((execOp a.eval o).run X.P w) := by
  simp only [evOp, hop] at e
  have hx := opd_rel ht hg x
  split at e
  · rename_i r0 j off h0
    rw [h0] at hx
    obtain ⟨l, hl, he⟩ := rel_ptr hx
    split at e
    · rename_i row hrow
      split at e
      · rename_i el hel
        cases hp : Ev.pick X.P ty row.ty el off with
        | none => simp [hp] at e
        | some v =>
          simp only [hp, Option.map_some, Option.some.injEq] at e; subst e
          obtain ⟨l', hl', hok⟩ := hm.live r0 row hrow (hm.zero r0 (by rw [hl]; simp))
          rw [hl] at hl'
          have := Option.some.inj hl'
          subst this
          obtain ⟨_, _, _, _, _, g6, _, _⟩ := hok
          obtain ⟨y, hy, hr⟩ := load_sound (P := X.P) (I := I) (φ := φ) (b := l.b) (o := l.base + j * l.z) (fun c u hc => by
            obtain ⟨z, z1, z2, z3⟩ := g6 j el c u hel hc
            refine ⟨z, z1, z2, ?_⟩
            split at z3
            · exact .p z3
            · exact z3.mono (fun _ _ h => h) (fun _ _ _ _ h => h) Phi.upto_le) hp
          refine post_same hm (x := y) hr ?_
          simp only [execOp, hop, he]
          refine run_v ?_
          simp only [Instr.loadAt, Sem.run_bind, Instr.sureAddr, Sem.run_pure, Result.andThen_ok, hy]
      · simp at e
    · simp at e
  · rename_i e0 ety off h0
    rw [h0] at hx
    obtain ⟨b, of, xs, he, g1, g2⟩ := rel_cptr hx
    cases hp : Ev.pick X.P ty ety e0 off with
    | none => simp [hp] at e
    | some v =>
      simp only [hp, Option.map_some, Option.some.injEq] at e; subst e
      obtain ⟨y, hy, hr⟩ := load_sound (P := X.P) (I := I) (φ := φ) (b := b) (o := of) (fun c u hc => ⟨xs c, (g1 c u hc).1, (g1 c u hc).2.2, .p (g2 c u hc)⟩) hp
      refine post_same hm (x := y) hr ?_
      simp only [execOp, hop, he]
      refine run_v ?_
      simp only [Instr.loadAt, Sem.run_bind, Instr.sureAddr, Sem.run_pure, Result.andThen_ok, hy]
  · simp at e
end
end Go.Ev
namespace Go.Ev
section
variable {X : Env} {I : Imm} {w : World} {φ : Phi} {m : Mem} {t : Tm} {a : Act} {o : Oper} {r : OpR}
theorem fillNil_sound {P : Program} (s : Nat) : ∀ (cs : List V) (xs : List Value) (i : Nat) (φ : Phi) (m : Mem), MemOk P I w φ m → All2 (Rel P I w φ) cs xs →
    ∃ φ', MemOk P I w φ' (fillNil m s i cs).1 ∧ Ext I w φ I w φ' ∧ All2 (Rel P I w φ') (fillNil m s i cs).2 xs ∧ (fillNil m s i cs).1.out.length = m.out.length
  | [], xs, i, φ, m, h, ha => ⟨φ, h, Ext.refl _ _ _, ha, rfl⟩
  | c :: cs, xs, i, φ, m, h, ha => by
    obtain ⟨x, ys, rfl, h0, ht⟩ := ha.head
    by_cases hn : c = .nilS
    · subst hn
      obtain ⟨m1, e1⟩ := step_newNil (P := P) h s i
      obtain ⟨φ2, m2, e2, a2, l2⟩ := fillNil_sound s cs ys (i + 1) _ _ m1 (ht.mono fun _ _ hr => hr.ext e1)
      refine ⟨φ2, m2, e1.trans e2, .cons ?_ a2, l2⟩
      rw [rel_nilS h0]
      exact .rsNil (e2.phi _ _ (Phi.put_same _ _ _))
    · have e : fillNil m s i (c :: cs) = ((fillNil m s (i + 1) cs).1, c :: (fillNil m s (i + 1) cs).2) := by
        cases c <;> first | rfl | exact absurd rfl hn
      rw [e]
      obtain ⟨φ2, m2, e2, a2, l2⟩ := fillNil_sound s cs ys (i + 1) _ _ h ht
      exact ⟨φ2, m2, e2, .cons (h0.ext e2) a2, l2⟩
theorem fillNil_length (s : Nat) : ∀ (cs : List V) (i : Nat) (m : Mem), (fillNil m s i cs).2.length = cs.length
  | [], _, _ => rfl
  | c :: cs, i, m => by
    by_cases hn : c = .nilS
    · subst hn; simp [fillNil, fillNil_length s cs]
    · have e : fillNil m s i (c :: cs) = ((fillNil m s (i + 1) cs).1, c :: (fillNil m s (i + 1) cs).2) := by
        cases c <;> first | rfl | exact absurd rfl hn
      rw [e]; simp [fillNil_length s cs]
theorem filled_sound {P : Program} (h : MemOk P I w φ m) (s : Nat) {v : V} {x : Value} (hr : Rel P I w φ v x) :
    ∃ φ', MemOk P I w φ' (filled m s v).1 ∧ Ext I w φ I w φ' ∧ Rel P I w φ' (filled m s v).2 x ∧ (filled m s v).1.out.length = m.out.length ∧
      (v.ok1 = true → (filled m s v).2.ok1 = true) ∧ (filled m s v).2.width = v.width := by
  cases v with
  | agg cs =>
    simp only [filled]
    split
    · obtain ⟨xs, rfl, hl, hp, ho⟩ := rel_agg hr
      obtain ⟨φ', h1, h2, h3, h4⟩ := fillNil_sound s cs xs 1 φ m h ⟨hl, hp⟩
      exact ⟨φ', h1, h2, .agg h3.1 h3.2 ho, h4, fun _ => rfl, fillNil_length s cs 1 m⟩
    · exact ⟨φ, h, Ext.refl _ _ _, hr, rfl, fun h => h, rfl⟩
  | nilS =>
    obtain ⟨m1, e1⟩ := step_newNil (P := P) h s 1
    refine ⟨_, m1, e1, ?_, rfl, fun _ => rfl, rfl⟩
    rw [rel_nilS hr]
    exact .rsNil (Phi.put_same _ _ _)
  | _ => exact ⟨φ, h, Ext.refl _ _ _, hr, rfl, fun h => h, rfl⟩
theorem new_var {P : Program} (h : MemOk P I w φ m) (hold : ∀ b o, I b o → b < w.heap.size) (s : Nat) {v : V} {x : Value} (hr : Rel P I w φ v x) (h1 : v.ok1 = true) {ty : TypeId} (h0 : ty ≠ 0)
    (hwd : v.width = P.cellsOf ty) :
    ∃ φ', MemOk P I (w.alloc (.cells x.cells ty)) φ' ((filled m s v).1.new s 0 ty false [(filled m s v).2]) ∧ Ext I w φ I (w.alloc (.cells x.cells ty)) φ' ∧
      Rel P I (w.alloc (.cells x.cells ty)) φ' (.ptr ((filled m s v).1.newRef s 0) 0 0) (.pointer (some ⟨w.heap.size, 0, none⟩)) ∧ ((filled m s v).1.new s 0 ty false [(filled m s v).2]).out.length = m.out.length := by
  obtain ⟨φ1, m1, e1, r1, l1, k1, w1⟩ := filled_sound h s hr
  obtain ⟨c1, c2, c3⟩ := rel_cells r1 (k1 h1)
  obtain ⟨m2, e2⟩ := step_new (I := I) (w := w) m1 s 0 ty false [(filled m s v).2] x.cells ty (P.cellsOf ty) 1 (by simp) rfl h0 (by omega)
    (fun j e hj => by
      cases j with
      | zero => simp at hj; subst hj; omega
      | succ j => simp at hj)
    (fun j e c u hj hc => by
      cases j with
      | succ j => simp at hj
      | zero =>
        simp at hj; subst hj
        obtain ⟨y, hy, hr⟩ := c1.get hc
        refine ⟨y, by simpa using hy, c2 y (List.mem_of_getElem? hy), ?_⟩
        simpa using hr)
    (fun o ho => by have := hold _ _ ho; omega)
  refine ⟨_, m2, e1.trans e2, ?_, l1⟩
  have := Rel.ptr (P := P) (I := I) (w := w.alloc (.cells x.cells ty)) (φ := φ1.put ((filled m s v).1.newRef s 0) (some ⟨w.heap.size, 0, P.cellsOf ty, 1⟩)) (r := (filled m s v).1.newRef s 0) (j := 0) (off := 0) (Phi.put_same _ _ _)
  simpa using this
theorem op_assign {x : Operand} (hm : MemOk X.P I w φ m) (ht : TmOk X I w φ t a) (hg : GlobOk X I w) (hop : o.op = .assign x) (e : evOp X m t o = some r) :
    OpPost X I w φ m r ((execOp a.eval o).run X.P w) := by
  simp only [evOp, hop, Option.some.injEq] at e; subst e
  obtain ⟨φ', h1, h2, h3, h4, _, _⟩ := filled_sound hm (o.dst.getD 0) (opd_rel ht hg x)
  exact ⟨a.eval x, w, I, φ', by simp only [execOp, hop]; rfl, h2, h1, h3, h4⟩
theorem op_alloc {ty : TypeId} (hm : MemOk X.P I w φ m) (hold : ∀ b o, I b o → b < w.heap.size) (hop : o.op = .alloc ty) (e : evOp X m t o = some r) :
    OpPost X I w φ m r ((execOp a.eval o).run X.P w) := by
  simp only [evOp, hop] at e
  split at e
  · rename_i z hz
    simp only [Option.some.injEq] at e; subst e
    obtain ⟨x, hx, rfl, h0, h1, _, h3⟩ := zero_run (w := w) hz
    obtain ⟨φ', p1, p2, p3, p4⟩ := new_var (P := X.P) (φ := φ) hm hold (o.dst.getD 0) (.p (relP_ofValue x)) h1 h0 h3
    refine ⟨_, _, I, φ', ?_, p2, p1, p3, p4⟩
    simp only [execOp, hop]
    refine run_v ?_
    simp only [Instr.alloc, Sem.run_bind, hx, Result.andThen_ok, newVar, newRow, run_newObj_alloc, Sem.run_pure]
  · simp at e
theorem op_box {ty : TypeId} {x : Operand} (hm : MemOk X.P I w φ m) (hold : ∀ b o, I b o → b < w.heap.size) (ht : TmOk X I w φ t a) (hg : GlobOk X I w) (hop : o.op = .box ty x) (e : evOp X m t o = some r) :
    OpPost X I w φ m r ((execOp a.eval o).run X.P w) := by
  simp only [evOp, hop] at e
  split at e
  · rename_i hc
    obtain ⟨h0, h1, h3⟩ := hc
    simp only [Option.some.injEq] at e; subst e
    obtain ⟨φ', p1, p2, p3, p4⟩ := new_var (P := X.P) (φ := φ) hm hold (o.dst.getD 0) (opd_rel ht hg x) h1 h0 h3
    refine ⟨_, _, I, φ', ?_, p2, p1, p3, p4⟩
    simp only [execOp, hop]
    refine run_v ?_
    simp only [Instr.box, Sem.run_bind, newVar, newRow, run_newObj_alloc, Result.andThen_ok, Sem.run_pure]
  · simp at e
theorem ok1_cells {v : V} (h : v.ok1 = true) : v.cells.length = v.width := by cases v <;> rfl
theorem splice_get (cs : List V) (off : Nat) (x : List V) (h : off + x.length ≤ cs.length) (i : Nat) : (splice cs off x)[i]? = if off ≤ i ∧ i < off + x.length then x[i - off]? else cs[i]? := by
  unfold splice
  rw [List.append_assoc]
  by_cases h1 : i < off
  · rw [if_neg (by omega), List.getElem?_append_left (by simp; omega), List.getElem?_take]; simp [h1]
  · rw [List.getElem?_append_right (by simp; omega)]
    have e1 : i - (cs.take off).length = i - off := by simp; omega
    rw [e1]
    by_cases h2 : i < off + x.length
    · rw [if_pos (by omega), List.getElem?_append_left (by omega)]
    · rw [if_neg (by omega), List.getElem?_append_right (by omega), List.getElem?_drop]
      congr 1; omega
theorem splice_length (cs : List V) (off : Nat) (x : List V) (h : off + x.length ≤ cs.length) : (splice cs off x).length = cs.length := by
  unfold splice; simp; omega
def CellsOk (R : V → Value → Prop) (cs : List V) (A : Array Value) : Prop := All2 R cs A.toList ∧ ∀ y ∈ A.toList, y.oneCell' = true
theorem all_cells {P : Program} {v : V} {x : Value} (h : Rel P I w φ v x) (h1 : v.ok1 = true) : CellsOk (Rel P I w φ) v.cells x.cells := ⟨(rel_cells h h1).1, (rel_cells h h1).2.1⟩
theorem put_cells {R : V → Value → Prop} {cs : List V} {A : Array Value} (h : CellsOk R cs A) {off : Nat} {u : List V} {y : Array Value} (hy : CellsOk R u y) (hle : off + u.length ≤ cs.length) :
    CellsOk R (splice cs off u) (y.zipIdx.foldl (fun cs (c, j) => cs.setIfInBounds (off + j) c) A) ∧ (y.zipIdx.foldl (fun cs (c, j) => cs.setIfInBounds (off + j) c) A).size = A.size := by
  have e : y.zipIdx.foldl (fun cs (c, j) => cs.setIfInBounds (off + j) c) A = (y.toList.zipIdx 0).foldl (fun cs (x : Value × Nat) => cs.setIfInBounds (off + x.2) x.1) A := by
    rw [← Array.foldl_toList, Array.toList_zipIdx]
  rw [e]
  obtain ⟨g1, g2⟩ := Great.foldl_set off y.toList 0 A
  have hul : u.length = y.toList.length := hy.1.1
  have hcl : cs.length = A.size := by have := h.1.1; simpa using this
  refine ⟨⟨⟨?_, ?_⟩, ?_⟩, g1⟩
  · rw [splice_length _ _ _ hle]; simp [g1, hcl]
  · intro i v x hv hx
    rw [splice_get _ _ _ hle] at hv
    rw [Array.getElem?_toList, g2 i] at hx
    simp only [Nat.add_zero] at hx
    by_cases hc : off ≤ i ∧ i < off + u.length
    · rw [if_pos hc] at hv
      rw [if_pos (by rw [← hul]; omega)] at hx
      exact hy.1.2 _ v x hv hx
    · rw [if_neg hc] at hv
      rw [if_neg (by rw [← hul]; omega)] at hx
      exact h.1.2 i v x hv (by simpa using hx)
  · intro z hz
    obtain ⟨i, hi⟩ := List.mem_iff_getElem?.1 hz
    rw [Array.getElem?_toList, g2 i] at hi
    split at hi
    · exact hy.2 z (List.mem_of_getElem? hi)
    · exact h.2 z (by rw [List.mem_iff_getElem?]; exact ⟨i, by simpa using hi⟩)
theorem fillParts_sound {P : Program} {ty : TypeId} {place : Nat → Option (Nat × Nat)}
    (hpl : ∀ i, place i = match P.underlying ty with
      | some (.struct fs) => (fs[i]?).map fun f => (f.offset, P.cellsOf f.type)
      | some (.array _ e) => some (i * P.cellsOf e, P.cellsOf e)
      | _ => none) :
    ∀ (ps : List (Nat × V)) (xs : List (Nat × Value)) (cs cs' : List V) (A : Array Value), ps.map (·.1) = xs.map (·.1) → All2 (Rel P I w φ) (ps.map (·.2)) (xs.map (·.2)) →
      CellsOk (Rel P I w φ) cs A → fillParts P ty cs ps = some cs' → ∃ A', Instr.fill place A xs = some A' ∧ CellsOk (Rel P I w φ) cs' A'
  | [], xs, cs, cs', A, h1, _, hA, he => by
    have : xs = [] := by cases xs with
      | nil => rfl
      | cons => simp at h1
    subst this
    simp only [fillParts, Option.some.injEq] at he; subst he
    exact ⟨A, rfl, hA⟩
  | (i, v) :: ps, xs, cs, cs', A, h1, h2, hA, he => by
    cases xs with
    | nil => simp at h1
    | cons p xs =>
      obtain ⟨i', x⟩ := p
      simp only [List.map_cons, List.cons.injEq] at h1
      obtain ⟨rfl, h1⟩ := h1
      simp only [List.map_cons] at h2
      obtain ⟨x', ys, hxy, hr, ht⟩ := h2.head
      simp only [List.cons.injEq] at hxy
      obtain ⟨rfl, rfl⟩ := hxy
      have hcl : cs.length = A.size := by have := hA.1.1; simpa using this
      have key : ∀ off size, place i = some (off, size) → v.ok1 = true → v.width = size → off + v.width ≤ cs.length → fillParts P ty (splice cs off v.cells) ps = some cs' →
          ∃ A', Instr.fill place A ((i, x) :: xs) = some A' ∧ CellsOk (Rel P I w φ) cs' A' := by
        intro off size hp ho hw hle hf
        have hc := all_cells hr ho
        have hxs := (rel_cells hr ho).2.2
        have hvl := ok1_cells ho
        obtain ⟨q1, q2⟩ := put_cells hA hc (off := off) (by omega)
        obtain ⟨A', a1, a2⟩ := fillParts_sound hpl ps xs _ cs' _ h1 ht q1 hf
        refine ⟨A', ?_, a2⟩
        rw [Instr.fill]
        simp only [hp]
        rw [if_neg (by simp; omega)]
        exact a1
      simp only [fillParts] at he
      have hpi := hpl i
      split at he
      · rename_i fs hu
        simp only [hu] at hpi
        split at he
        · rename_i f hf
          simp only [hf, Option.map_some] at hpi
          split at he
          · rename_i hc; exact key _ _ hpi hc.1 hc.2.1 hc.2.2 he
          · simp at he
        · simp at he
      · rename_i n el hu
        simp only [hu] at hpi
        split at he
        · rename_i hc; exact key _ _ hpi hc.1 hc.2.1 hc.2.2 he
        · simp at he
      · simp at he
theorem parts_map {P : Program} (ht : TmOk X I w φ t a) (hg : GlobOk X I w) (parts : List (Nat × Operand)) :
    (parts.map fun p => (p.1, opd X t p.2)).map (·.1) = (parts.map fun p => (p.1, a.eval p.2)).map (·.1) ∧
    All2 (Rel X.P I w φ) ((parts.map fun p => (p.1, opd X t p.2)).map (·.2)) ((parts.map fun p => (p.1, a.eval p.2)).map (·.2)) := by
  refine ⟨by simp, ?_⟩
  induction parts with
  | nil => exact .nil
  | cons p ps ih => exact .cons (opd_rel ht hg p.2) ih
theorem mapM_places {P : Program} : ∀ (fs : List Field), (fs.all fun f => (P.info? f.type).isSome) = true →
    fs.mapM (fun f => (P.info? f.type).map fun i => (f.offset, i.size)) = some (fs.map fun f => (f.offset, P.cellsOf f.type))
  | [], _ => rfl
  | f :: fs, h => by
    simp only [List.all_cons, Bool.and_eq_true] at h
    obtain ⟨i, hi⟩ := Option.isSome_iff_exists.1 h.1
    rw [List.mapM_cons, mapM_places fs h.2]
    simp [hi, Program.cellsOf]
theorem op_build {ty : TypeId} {parts : Array (Nat × Operand)} (hm : MemOk X.P I w φ m) (ht : TmOk X I w φ t a) (hg : GlobOk X I w) (hop : o.op = .build ty parts) (e : evOp X m t o = some r) :
    OpPost X I w φ m r ((execOp a.eval o).run X.P w) := by
  simp only [evOp, hop] at e
  split at e
  · rename_i z hz
    split at e
    · rename_i cs hcs
      split at e
      · rename_i hpo
        simp only [Option.some.injEq] at e; subst e
        obtain ⟨x, hx, hzx, h0, h1, _, h3⟩ := zero_run (w := w) hz
        have hzr : Rel X.P I w φ (.agg z) x := by rw [hzx]; exact .p (relP_ofValue x)
        have hA := all_cells hzr h1
        obtain ⟨p1, p2⟩ := parts_map (P := X.P) ht hg parts.toList
        have hinfo : ∃ i, X.P.info? ty = some i ∧ i.zero = some x := by
          simp only [zeroValue, typeInfo, Sem.run_bind, run_program, Result.andThen_ok] at hx
          cases hi : X.P.info? ty with
          | none => simp [hi] at hx
          | some i =>
            simp [hi] at hx
            cases hz : i.zero with
            | none => simp [hz] at hx
            | some y => simp [hz] at hx; exact ⟨i, rfl, by rw [hz, hx]⟩
        obtain ⟨it, hit, hitz⟩ := hinfo
        have hbuilt : ∃ A', X.P.built ty ((parts.map fun (i, x) => (i, a.eval x)).toList) = some A' ∧ CellsOk (Rel X.P I w φ) cs A' := by
          have hpl : (parts.map fun (i, x) => (i, a.eval x)).toList = parts.toList.map fun p => (p.1, a.eval p.2) := by simp
          rw [hpl]
          unfold Program.built
          simp only [hit]
          unfold partsOk at hpo
          split at hpo
          · rename_i fs hu
            simp only [hu, hitz, mapM_places fs.toList hpo]
            exact fillParts_sound (fun i => by simp only [hu]; simp) _ _ _ _ _ p1 p2 hA hcs
          · rename_i n el hu
            obtain ⟨ie, hie⟩ := Option.isSome_iff_exists.1 hpo
            have hsz : X.P.cellsOf el = ie.size := by simp [Program.cellsOf, hie]
            simp only [hu, hitz, hie]
            exact fillParts_sound (fun i => by simp only [hu, hsz]) _ _ _ _ _ p1 p2 hA hcs
          · simp at hpo
        obtain ⟨A', hA1, hA2⟩ := hbuilt
        have hagg : Rel X.P I w φ (.agg cs) (.agg A') := by
          obtain ⟨l⟩ := A'
          exact .agg hA2.1.1 hA2.1.2 hA2.2
        obtain ⟨φ', q1, q2, q3, q4, _, _⟩ := filled_sound hm (o.dst.getD 0) hagg
        refine ⟨.agg A', w, I, φ', ?_, q2, q1, q3, q4⟩
        simp only [execOp, hop]
        exact run_v (run_build w ty _ A' hA1)
      · simp at e
    · simp at e
  · simp at e
end
end Go.Ev
namespace Go.Ev
section
variable {X : Env} {I : Imm} {w : World} {φ : Phi} {m : Mem} {t : Tm} {a : Act} {o : Oper} {r : OpR}
def ElemsOk (I : Imm) (w : World) (size : Nat) (es : List V) (A : Array Value) : Prop :=
  es.length * size ≤ A.size ∧ ∀ (j : Nat) (e : V), es[j]? = some e → e.width = size ∧
    ∀ (c : Nat) (v : V), e.cells[c]? = some v → ∃ x, A[j * size + c]? = some x ∧ x.oneCell' = true ∧ RelP I w v x
theorem cells_lt {e : V} {c : Nat} {v : V} (h : e.cells[c]? = some v) : c < e.width := by
  have : c < e.cells.length := by
    rcases Nat.lt_or_ge c e.cells.length with h' | h'
    · exact h'
    · simp [List.getElem?_eq_none h'] at h
  cases e <;> simpa [V.width, V.cells] using this
theorem get_lt {α : Type} {l : List α} {j : Nat} {e : α} (h : l[j]? = some e) : j < l.length := by
  rcases Nat.lt_or_ge j l.length with h' | h'
  · exact h'
  · simp [List.getElem?_eq_none h'] at h
theorem cells_pure {P : Program} {v : V} {x : Value} (h : Rel P I w φ v x) (h1 : v.ok1 = true) (hr : v.refs = false) (c : Nat) (u : V) (hu : v.cells[c]? = some u) :
    ∃ y, x.cells[c]? = some y ∧ y.oneCell' = true ∧ RelP I w u y := by
  obtain ⟨c1, c2, _⟩ := rel_cells h h1
  obtain ⟨y, hy, hrel⟩ := c1.get hu
  have ho := c2 y (List.mem_of_getElem? hy)
  refine ⟨y, by simpa using hy, ho, pure1 hrel ho ?_⟩
  cases v with
  | agg cs =>
    simp only [V.refs, List.any_eq_false] at hr
    simpa using hr u (List.mem_of_getElem? hu)
  | tup vs => simp [V.ok1] at h1
  | _ =>
    cases c with
    | succ c => simp [V.cells] at hu
    | zero => simp [V.cells] at hu; subst hu; exact hr
theorem fillElems_sound {P : Program} {size : Nat} : ∀ (ps : List (Nat × V)) (xs : List (Nat × Value)) (es es' : List V) (A : Array Value), ps.map (·.1) = xs.map (·.1) →
    All2 (Rel P I w φ) (ps.map (·.2)) (xs.map (·.2)) → (∀ p ∈ ps, p.2.refs = false) → ElemsOk I w size es A → fillElems size es ps = some es' →
    ∃ A', Instr.fill (fun i => some (i * size, size)) A xs = some A' ∧ ElemsOk I w size es' A' ∧ A'.size = A.size ∧ es'.length = es.length
  | [], xs, es, es', A, h1, _, _, hA, he => by
    have : xs = [] := by cases xs with
      | nil => rfl
      | cons => simp at h1
    subst this
    simp only [fillElems, Option.some.injEq] at he; subst he
    exact ⟨A, rfl, hA, rfl, rfl⟩
  | (i, v) :: ps, xs, es, es', A, h1, h2, h3, hA, he => by
    cases xs with
    | nil => simp at h1
    | cons p xs =>
      obtain ⟨i', x⟩ := p
      simp only [List.map_cons, List.cons.injEq] at h1
      obtain ⟨rfl, h1⟩ := h1
      simp only [List.map_cons] at h2
      obtain ⟨x', ys, hxy, hr, ht⟩ := h2.head
      simp only [List.cons.injEq] at hxy
      obtain ⟨rfl, rfl⟩ := hxy
      simp only [fillElems] at he
      split at he
      · rename_i hc
        obtain ⟨ho, hw, hlt⟩ := hc
        have hrefs := h3 (i, v) (by simp)
        have hxs := (rel_cells hr ho).2.2
        have hle : (i + 1) * size ≤ es.length * size := Nat.mul_le_mul_right _ hlt
        have e1 : (i + 1) * size = i * size + size := by rw [Nat.add_mul]; omega
        have hAle := hA.1
        have efold : x.cells.zipIdx.foldl (fun cs (c, j) => cs.setIfInBounds (i * size + j) c) A = (x.cells.toList.zipIdx 0).foldl (fun cs (x : Value × Nat) => cs.setIfInBounds (i * size + x.2) x.1) A := by
          rw [← Array.foldl_toList, Array.toList_zipIdx]
        obtain ⟨g1, g2⟩ := Great.foldl_set (i * size) x.cells.toList 0 A
        rw [← efold] at g1 g2
        have q : ElemsOk I w size (es.set i v) (x.cells.zipIdx.foldl (fun cs (c, j) => cs.setIfInBounds (i * size + j) c) A) := by
          refine ⟨by rw [g1]; simpa using hA.1, fun j e hj => ?_⟩
          by_cases hij : i = j
          · subst hij
            rw [List.getElem?_set_self hlt] at hj
            simp only [Option.some.injEq] at hj; subst hj
            refine ⟨hw, fun c u hu => ?_⟩
            obtain ⟨y, y1, y2, y3⟩ := cells_pure hr ho hrefs c u hu
            have hcl := cells_lt hu
            refine ⟨y, ?_, y2, y3⟩
            rw [g2]
            simp only [Nat.add_zero, Array.length_toList]
            rw [if_pos (by omega)]
            simpa using y1
          · rw [List.getElem?_set_ne hij] at hj
            obtain ⟨k1, k2⟩ := hA.2 j e hj
            refine ⟨k1, fun c u hu => ?_⟩
            obtain ⟨y, y1, y2, y3⟩ := k2 c u hu
            have hcl := cells_lt hu
            refine ⟨y, ?_, y2, y3⟩
            rw [g2]
            simp only [Nat.add_zero, Array.length_toList]
            rw [if_neg, y1]
            rintro ⟨b1, b2, _⟩
            rcases Nat.lt_or_gt_of_ne hij with h | h
            · have : (i + 1) * size ≤ j * size := Nat.mul_le_mul_right _ h
              omega
            · have : (j + 1) * size ≤ i * size := Nat.mul_le_mul_right _ h
              have : (j + 1) * size = j * size + size := by rw [Nat.add_mul]; omega
              omega
        obtain ⟨A', a1, a2, a3, a4⟩ := fillElems_sound ps xs _ es' _ h1 ht (fun p hp => h3 p (by simp [hp])) q he
        refine ⟨A', ?_, a2, by rw [a3, g1], by rw [a4]; simp⟩
        rw [Instr.fill]
        simp only
        rw [if_neg (by simp; omega)]
        exact a1
      · simp at he
theorem made_ok {P : Program} {z : V} {x : Value} {size : Nat} (hr : Rel P I w φ z x) (h1 : z.ok1 = true) (hrefs : z.refs = false) (hw : z.width = size) {n k : Nat} (hnk : n ≤ k) :
    ElemsOk I w size (List.replicate n z) (madeCells x.cells (k * size)) := by
  refine ⟨by simp only [List.length_replicate, size_madeCells]; exact Nat.mul_le_mul_right _ hnk, fun j e hj => ?_⟩
  rw [List.getElem?_replicate] at hj
  split at hj
  · rename_i hjn
    simp only [Option.some.injEq] at hj; subst hj
    refine ⟨hw, fun c u hu => ?_⟩
    obtain ⟨y, y1, y2, y3⟩ := cells_pure hr h1 hrefs c u hu
    have hcl := cells_lt hu
    refine ⟨y, ?_, y2, y3⟩
    have hsz := (rel_cells hr h1).2.2
    have hlt : j * size + c < k * size := by
      have : (j + 1) * size ≤ k * size := Nat.mul_le_mul_right _ (by omega)
      have : (j + 1) * size = j * size + size := by rw [Nat.add_mul]; omega
      omega
    have hmod : (j * size + c) % x.cells.size = c := by
      rw [hsz, hw, Nat.mul_comm, Nat.mul_add_mod]
      exact Nat.mod_eq_of_lt (by omega)
    unfold madeCells
    simp only [Array.getElem?_map, Array.getElem?_range, hlt, if_true, Option.map_some, hmod, getElem!_def, y1]
  · simp at hj
theorem zero_snap {P : Program} (hm : MemOk P I w φ m) {ty : TypeId} {z z' : V} (hz : zeroOf P ty = some z) (hs : snap m z = some z') :
    ∃ i x, P.info? ty = some i ∧ i.zero = some x ∧ ty ≠ 0 ∧ Rel P I w φ z' x := by
  obtain ⟨x, hx, rfl, h0, h1, _, h3⟩ := zero_run (w := w) hz
  have hp : RelP I w (ofValue x) x := relP_ofValue x
  have hno : ∀ (r : Ref) (ty : TypeId) (off len : Nat) (y : Value), RelP I w (.rs r ty off len) y → False := fun r ty off len y h => by cases h
  have hcov : Cov m φ I (ofValue x) := by
    have c1 : ∀ v y, RelP I w v y → Cov1 m φ I v := by
      intro v y hv r ty off len e
      subst e
      exact (hno _ _ _ _ _ hv).elim
    cases hv : ofValue x with
    | agg cs =>
      rw [hv] at hp
      cases hp with
      | agg hl hc _ =>
        intro v hvm
        obtain ⟨i, hi⟩ := List.mem_iff_getElem?.1 hvm
        obtain ⟨y, _, hy⟩ := All2.get (R := RelP I w) ⟨hl, hc⟩ hi
        exact c1 v y hy
    | _ => rw [hv] at hp; exact c1 _ _ hp
  have := snap_sound hm (fun _ _ h => h) (.p hp) hcov hs
  simp only [zeroValue, typeInfo, Sem.run_bind, run_program, Result.andThen_ok] at hx
  cases hi : P.info? ty with
  | none => simp [hi] at hx
  | some i =>
    simp [hi] at hx
    cases hz' : i.zero with
    | none => simp [hz'] at hx
    | some y => simp [hz'] at hx; subst hx; exact ⟨i, y, rfl, hz', h0, this⟩
theorem run_bs {P : Program} (w : World) (t e : TypeId) (len : Nat) (parts : Array (Nat × Value)) (cells : Array Value) (ie : TypeInfo) (z : Value)
    (hu : P.underlying t = some (.slice e)) (hie : P.info? e = some ie) (hz : ie.zero = some z) (hsmall : ¬ len * ie.size > 2 ^ 24)
    (h : Instr.fill (fun i => some (i * ie.size, ie.size)) (madeCells z.cells (len * ie.size)) parts.toList = some cells) :
    (Instr.buildSlice t len parts).run P w = .ok (.slice (some ⟨w.heap.size, 0, none⟩) len len) (w.alloc (.cells cells e)) := by
  unfold madeCells at h
  by_cases h0 : len * ie.size = 0
  · rw [h0] at h
    simp only [Array.range_zero', Array.map_empty] at h
    simp [Instr.buildSlice, run_underlying hu, sizeOf, typeInfo, hie, h0, h, newRow, Array.range_zero', Array.map_empty]
  · simp [Instr.buildSlice, run_underlying hu, sizeOf, typeInfo, zeroValue, hie, hz, hsmall, h0, h, newRow]
theorem new_row {P : Program} (h : MemOk P I w φ m) (hold : ∀ b o, I b o → b < w.heap.size) (s i : Nat) {es : List V} {A : Array Value} {ty : TypeId} (h0 : ty ≠ 0) {cap : Nat} (hcap : es.length ≤ cap) (hsz : cap * P.cellsOf ty ≤ A.size)
    (hA : ElemsOk I w (P.cellsOf ty) es A) :
    ∃ φ', MemOk P I (w.alloc (.cells A ty)) φ' (m.new s i ty true es) ∧ Ext I w φ I (w.alloc (.cells A ty)) φ' ∧ Rel P I (w.alloc (.cells A ty)) φ' (.rs (m.newRef s i) ty 0 es.length) (.slice (some ⟨w.heap.size, 0, none⟩) es.length cap) := by
  obtain ⟨m2, e2⟩ := step_new (I := I) (w := w) h s i ty true es A ty (P.cellsOf ty) cap hcap rfl h0 hsz (fun j e hj => (hA.2 j e hj).1)
    (fun j e c u hj hc => by
      obtain ⟨x, x1, x2, x3⟩ := (hA.2 j e hj).2 c u hc
      exact ⟨x, x1, x2, by simpa using x3⟩)
    (fun o ho => by have := hold _ _ ho; omega)
  refine ⟨_, m2, e2, ?_⟩
  have := Rel.rs (P := P) (I := I) (w := w.alloc (.cells A ty)) (φ := φ.put (m.newRef s i) (some ⟨w.heap.size, 0, P.cellsOf ty, cap⟩)) (r := m.newRef s i) (ty := ty) (off := 0) (len := es.length)
    (l := ⟨w.heap.size, 0, P.cellsOf ty, cap⟩) (Phi.put_same _ _ _) (by simpa using hcap) rfl
  simpa using this
theorem op_buildSlice {ty : TypeId} {n : Nat} {parts : Array (Nat × Operand)} (hm : MemOk X.P I w φ m) (hold : ∀ b o, I b o → b < w.heap.size) (ht : TmOk X I w φ t a) (hg : GlobOk X I w) (hop : o.op = .buildSlice ty n parts) (e : evOp X m t o = some r) :
    OpPost X I w φ m r ((execOp a.eval o).run X.P w) := by
  simp only [evOp, hop] at e
  split at e
  · rename_i el hel
    split at e
    · rename_i z vs hz hvs
      split at e
      · rename_i z' hz'
        split at e
        · rename_i hc
          obtain ⟨hw, hsmall, hall, hzr, hzo⟩ := hc
          split at e
          · rename_i es hes
            simp only [Option.some.injEq] at e; subst e
            have hu := slElem_some hel
            obtain ⟨ie, x, hie, hiz, h0, hzx⟩ := zero_snap hm hz hz'
            have hsize : X.P.cellsOf el = ie.size := by simp [Program.cellsOf, hie]
            have hopd : All2 (Rel X.P I w φ) (parts.toList.map fun p => opd X t p.2) (parts.toList.map fun p => a.eval p.2) := by
              have := opds_rel ht hg (parts.toList.map (·.2))
              simpa [mapOpd, List.map_map, Function.comp_def] using this
            obtain ⟨I', m1, e1, c1, s1⟩ := frzs_sound _ _ I m hm hopd
            have hsn := snaps_sound _ vs _ hm e1.imm hopd c1 hvs
            have hold' := e1.old hold
            have hlen : vs.length = parts.toList.length := by rw [hsn.1]; simp
            have hzx' := hzx.ext e1
            have hrefz : z'.refs = false := by simpa [elemOk] using hzr
            have hmade := made_ok (P := X.P) hzx' hzo hrefz hw (Nat.le_refl n)
            have hfst : ((parts.toList.map (·.1)).zip vs).map (·.1) = (parts.toList.map fun p => (p.1, a.eval p.2)).map (·.1) := by
              rw [List.map_fst_zip (by simp [hlen])]; simp
            have hsnd : ((parts.toList.map (·.1)).zip vs).map (·.2) = vs := by
              rw [List.map_snd_zip (by simp [hlen])]
            obtain ⟨A', f1, f2, f3, f4⟩ := fillElems_sound (P := X.P) (φ := φ) ((parts.toList.map (·.1)).zip vs) (parts.toList.map fun p => (p.1, a.eval p.2)) _ es _ hfst
              (by rw [hsnd]; simpa [List.map_map, Function.comp_def] using hsn)
              (fun p hp => by
                have hv : p.2 ∈ vs := (List.of_mem_zip hp).2
                have := List.all_eq_true.1 hall _ hv
                simpa [elemOk] using this) hmade hes
            have hesl : es.length = n := by rw [f4]; simp
            obtain ⟨φ', q1, q2, q3⟩ := new_row (P := X.P) (I := I') (w := w) (φ := φ) m1 hold' (o.dst.getD 0) 0 (ty := el) h0 (cap := n) (by omega) (by rw [f3, size_madeCells]; exact Nat.le_refl _) f2
            rw [hesl] at q3
            refine ⟨_, _, I', φ', ?_, e1.trans q2, q1, q3, by simpa using s1.1⟩
            simp only [execOp, hop]
            refine run_v (run_bs w ty el n _ A' ie x hu hie hiz (by rw [← hsize]; omega) ?_)
            rw [← hsize]
            simpa using f1
          · simp at e
        · simp at e
      · simp at e
    · simp at e
  · simp at e
theorem op_makeSlice {ty : TypeId} {l c : Operand} (hm : MemOk X.P I w φ m) (hold : ∀ b o, I b o → b < w.heap.size) (ht : TmOk X I w φ t a) (hg : GlobOk X I w) (hop : o.op = .makeSlice ty l c) (e : evOp X m t o = some r) :
    OpPost X I w φ m r ((execOp a.eval o).run X.P w) := by
  simp only [evOp, hop] at e
  split at e
  · rename_i el n k hel hn hk
    split at e
    · rename_i z hz
      split at e
      · rename_i z' hz'
        split at e
        · rename_i hc
          obtain ⟨h1, h2, h3, hw, hzr, hzo⟩ := hc
          simp only [Option.some.injEq] at e; subst e
          have hu := slElem_some hel
          obtain ⟨ie, x, hie, hiz, h0, hzx⟩ := zero_snap hm hz hz'
          have hsize : X.P.cellsOf el = ie.size := by simp [Program.cellsOf, hie]
          have hbytes : X.P.bytesOf el = ie.bytes := by simp [Program.bytesOf, hie]
          have hrefz : z'.refs = false := by simpa [elemOk] using hzr
          have hkn : n.toNat ≤ k.toNat := by omega
          have hmade := made_ok (P := X.P) hzx hzo hrefz hw hkn
          obtain ⟨φ', q1, q2, q3⟩ := new_row (P := X.P) (I := I) (w := w) (φ := φ) hm hold (o.dst.getD 0) 0 (ty := el) h0 (cap := k.toNat) (by simpa using hkn) (by rw [size_madeCells]; exact Nat.le_refl _) hmade
          rw [List.length_replicate] at q3
          have hl := opd_rel ht hg l
          have hcc := opd_rel ht hg c
          rw [hn] at hl
          rw [hk] at hcc
          refine ⟨_, _, I, φ', ?_, q2, q1, q3, rfl⟩
          simp only [execOp, hop, rel_int hl, rel_int hcc]
          have hkm : k.toNat * (ie.bytes + ie.size + 1) ≤ 1099511627776 := by rw [← hbytes, ← hsize]; simpa [Ev.maxLen] using h3
          have hk1 : k.toNat ≤ 1099511627776 := Nat.le_trans (Nat.le_mul_of_pos_right _ (by omega)) hkm
          have hb1 : k.toNat * ie.bytes ≤ 1099511627776 := Nat.le_trans (Nat.mul_le_mul_left _ (by omega)) hkm
          have hb2 : (ie.bytes : Int) * k ≤ 281474976710656 := by
            have e : (ie.bytes : Int) * k = ((k.toNat * ie.bytes : Nat) : Int) := by
              rw [Int.natCast_mul, Int.toNat_of_nonneg (by omega), Int.mul_comm]
            rw [e]; omega
          have hr := run_make (P := X.P) w ty el ie x hu hie hiz .i64 .i64 n k h1 h2 hb2 (by omega)
          rw [← hsize] at hr
          exact run_v hr
        · simp at e
      · simp at e
    · simp at e
  · simp at e
theorem op_makeFunc {fn : Fn} {first cap : Array Operand} (hm : MemOk X.P I w φ m) (ht : TmOk X I w φ t a) (hg : GlobOk X I w) (hop : o.op = .makeFunc fn first cap) (e : evOp X m t o = some r) :
    OpPost X I w φ m r ((execOp a.eval o).run X.P w) := by
  cases fn with
  | func f =>
    simp only [evOp, hop] at e
    split at e
    · rename_i fs hfs
      split at e
      · rename_i hall
        obtain ⟨hall, hok⟩ := hall
        simp only [Option.some.injEq] at e; subst e
        have h1 := opds_rel ht hg first.toList
        have h2 := opds_rel ht hg cap.toList
        obtain ⟨I', m1, e1, c1, s1⟩ := frzs_sound _ _ I m hm h1
        have hsn := snaps_sound _ fs _ hm e1.imm h1 c1 hfs
        refine ⟨.func (.func f) (first.map a.eval) (cap.map a.eval), w, I', φ, ?_, e1, m1, ?_, by simpa using s1.1⟩
        · simp only [execOp, hop, Instr.makeFunc]
          exact run_v rfl
        · have e2 := h2.mono fun _ _ hr => hr.ext e1
          have p1 : first.map a.eval = ⟨first.toList.map a.eval⟩ := by apply Array.ext'; simp
          have p2 : cap.map a.eval = ⟨cap.toList.map a.eval⟩ := by apply Array.ext'; simp
          rw [p1, p2]
          refine .fn hsn.1 (fun i v x a b => ?_) e2.1 e2.2
          have hv := List.mem_of_getElem? a
          exact pure_of (hsn.2 i v x a b) (by simpa [elemOk] using List.all_eq_true.1 hall v hv) (.inl (List.all_eq_true.1 hok v hv))
      · simp at e
    · simp at e
  | _ => simp [evOp, hop] at e
end
end Go.Ev
namespace Go.Ev
section
variable {X : Env} {I : Imm} {w : World} {φ : Phi} {m : Mem} {t : Tm} {a : Act} {o : Oper} {r : OpR}
theorem row_write {P : Program} {row : Row} {l : Loc} {j off : Nat} {e e' : V} {xs : List Value} (hok : RowOk P I w φ row (some l)) (hfz : row.fz = false) (hj : row.es[j]? = some e) (hw : e'.width = l.z)
    (hle : off + xs.length ≤ l.z)
    (hc : ∀ (c : Nat) (u : V), e'.cells[c]? = some u →
      (∃ k y, c = off + k ∧ xs[k]? = some y ∧ y.oneCell' = true ∧ (if row.arr = true then RelP I w u y else Rel P I w φ u y)) ∨ ((c < off ∨ off + xs.length ≤ c) ∧ e.cells[c]? = some u)) :
    RowOk P I (w.setCells l.b (l.base + j * l.z + off) xs) φ { row with es := row.es.set j e' } (some l) ∧
    (∀ b o x, I b o → w.cell? ⟨b, o, none⟩ = some x → (w.setCells l.b (l.base + j * l.z + off) xs).cell? ⟨b, o, none⟩ = some x) := by
  obtain ⟨h1, h2, h3, ⟨cs, tt, h4, h4'⟩, h5, h6, h7, h8⟩ := hok
  have hI : ∀ o, l.base ≤ o → ¬ I l.b o := fun o ho => h7 o ho (fun hf => by rw [hfz] at hf; simp at hf)
  have hjl := get_lt hj
  have hjz : (j + 1) * l.z ≤ l.cap * l.z := Nat.mul_le_mul_right _ (by omega)
  have e1 : (j + 1) * l.z = j * l.z + l.z := by rw [Nat.add_mul]; omega
  have hcell : ∀ b o x, I b o → w.cell? ⟨b, o, none⟩ = some x → (w.setCells l.b (l.base + j * l.z + off) xs).cell? ⟨b, o, none⟩ = some x := by
    intro b o x hi hx
    rw [World.cell?_setCells_out, hx]
    intro hb _
    simp only at hb ⊢
    subst hb
    have : ¬ l.base ≤ o := fun ho => hI o ho hi
    left; omega
  refine ⟨⟨by simpa using h1, h2, h3, ?_, ?_, ?_, ?_, ?_⟩, hcell⟩
  · obtain ⟨cs', c1, c2⟩ := setCells_same l.b xs (l.base + j * l.z + off) w cs tt (0, 0) h4
    exact ⟨cs', tt, c1, by rw [c2]; exact h4'⟩
  · intro j' e2 hj'
    simp only at hj'
    by_cases hjj : j = j'
    · subst hjj
      rw [List.getElem?_set_self hjl] at hj'
      simp only [Option.some.injEq] at hj'; subst hj'
      exact hw
    · rw [List.getElem?_set_ne hjj] at hj'
      exact h5 j' e2 hj'
  · intro j' e2 c u hj' hcu
    simp only at hj'
    have old : ∀ x, (if row.arr = true then RelP I w u x else Rel P I w φ u x) →
        (if row.arr = true then RelP I (w.setCells l.b (l.base + j * l.z + off) xs) u x else Rel P I (w.setCells l.b (l.base + j * l.z + off) xs) φ u x) := by
      intro x hx
      split
      · rename_i ha; rw [if_pos ha] at hx; exact hx.mono (fun _ _ h => h) hcell
      · rename_i ha; rw [if_neg ha] at hx; exact hx.mono (fun _ _ h => h) hcell (fun _ _ h => h)
    by_cases hjj : j = j'
    · subst hjj
      rw [List.getElem?_set_self hjl] at hj'
      simp only [Option.some.injEq] at hj'; subst hj'
      rcases hc c u hcu with ⟨k, y, rfl, hk, ho, hr⟩ | ⟨hout, hcu'⟩
      · refine ⟨y, ?_, ho, old y hr⟩
        have hkl := get_lt hk
        have := World.cell?_setCells_in l.b xs (l.base + j * l.z + off) w (fun i hi => by rw [cell_of_heap h4]; simp; omega) k hkl
        rw [← Nat.add_assoc]
        rw [this]
        simp [List.getElem?_eq_getElem hkl] at hk
        rw [hk]
      · obtain ⟨x, x1, x2, x3⟩ := h6 j e c u hj hcu'
        refine ⟨x, ?_, x2, old x x3⟩
        rw [World.cell?_setCells_out, x1]
        intro _ _
        simp only
        omega
    · rw [List.getElem?_set_ne hjj] at hj'
      obtain ⟨x, x1, x2, x3⟩ := h6 j' e2 c u hj' hcu
      refine ⟨x, ?_, x2, old x x3⟩
      have hcl := cells_lt hcu
      rw [h5 j' e2 hj'] at hcl
      rw [World.cell?_setCells_out, x1]
      intro _ _
      simp only
      rcases Nat.lt_or_gt_of_ne hjj with h | h
      · have : (j + 1) * l.z ≤ j' * l.z := Nat.mul_le_mul_right _ h
        omega
      · have : (j' + 1) * l.z ≤ j * l.z := Nat.mul_le_mul_right _ h
        have : (j' + 1) * l.z = j' * l.z + l.z := by rw [Nat.add_mul]; omega
        omega
  · intro o ho hf
    exact hI o ho
  · intro hf
    simp only at hf
    rw [hfz] at hf
    simp at hf
theorem setElem_cases {P : Program} {row row' : Row} {j off : Nat} {ty : TypeId} {v : V} (h : setElem P row j off ty v = some row') (hv : v.ok1 = true) :
    v.width = P.cellsOf ty ∧ ∃ e e', row.es[j]? = some e ∧ row' = { row with es := row.es.set j e' } ∧
      ((ty = row.ty ∧ off = 0 ∧ e' = v) ∨ (∃ cs, e = .agg cs ∧ off + v.width ≤ cs.length ∧ e' = .agg (splice cs off v.cells))) := by
  unfold setElem at h
  split at h
  · rename_i e he
    split at h
    · rename_i hc
      split at h
      · rename_i hw
        simp only [Option.some.injEq] at h
        exact ⟨hw, e, v, he, h.symm, .inl ⟨hc.1, hc.2, rfl⟩⟩
      · simp at h
    · split at h
      · rename_i cs
        split at h
        · rename_i hw
          simp only [Option.some.injEq] at h
          exact ⟨hw.2, _, _, he, h.symm, .inr ⟨cs, rfl, hw.1, rfl⟩⟩
        · simp at h
      · simp at h
  · simp at h
theorem write_elem {P : Program} {row row' : Row} {l : Loc} {j off : Nat} {ty : TypeId} {v : V} {x : Value} {ψ : Phi} (hok : RowOk P I w ψ row (some l)) (hfz : row.fz = false)
    (h : setElem P row j off ty v = some row') (hv : v.ok1 = true) (hr : Rel P I w ψ v x) (hrefs : row.arr = true → v.refs = false) (hi : okT P ty = true) :
    ∃ w', (Instr.storeAt ty (.pointer (some ⟨l.b, l.base + j * l.z + off, none⟩)) x).run P w = .ok () w' ∧ w' = w.setCells l.b (l.base + j * l.z + off) x.cells.toList ∧ row'.g = row.g ∧
      RowOk P I w' ψ row' (some l) ∧ (∀ b o x, I b o → w.cell? ⟨b, o, none⟩ = some x → w'.cell? ⟨b, o, none⟩ = some x) := by
  obtain ⟨hwd, e, e', he, rfl, hcase⟩ := setElem_cases h hv
  obtain ⟨c1, c2, c3⟩ := rel_cells hr hv
  have hew := hok.2.2.2.2.1 j e he
  have hz := hok.2.1
  have hvl := ok1_cells hv
  have hxl : x.cells.toList.length = v.width := by simpa using c3
  have hle : off + x.cells.toList.length ≤ l.z := by
    rcases hcase with ⟨rfl, rfl, rfl⟩ | ⟨cs, rfl, hle, rfl⟩
    · omega
    · have : cs.length = l.z := hew
      omega
  have hw' : e'.width = l.z := by
    rcases hcase with ⟨rfl, rfl, rfl⟩ | ⟨cs, rfl, hle, rfl⟩
    · omega
    · have : cs.length = l.z := hew
      simp only [V.width]
      rw [splice_length _ _ _ (by omega)]; exact this
  have hcellv : ∀ (c : Nat) (u : V), v.cells[c]? = some u → ∃ y, x.cells.toList[c]? = some y ∧ y.oneCell' = true ∧ (if row.arr = true then RelP I w u y else Rel P I w ψ u y) := by
    intro c u hu
    by_cases ha : row.arr = true
    · obtain ⟨y, y1, y2, y3⟩ := cells_pure hr hv (hrefs ha) c u hu
      exact ⟨y, by simpa using y1, y2, by rw [if_pos ha]; exact y3⟩
    · obtain ⟨y, hy, hrel⟩ := c1.get hu
      exact ⟨y, hy, c2 y (List.mem_of_getElem? hy), by rw [if_neg ha]; exact hrel⟩
  obtain ⟨q1, q2⟩ := row_write hok hfz he hw' hle (by
    intro c u hcu
    rcases hcase with ⟨rfl, rfl, rfl⟩ | ⟨cs, rfl, hle', rfl⟩
    · obtain ⟨y, y1, y2, y3⟩ := hcellv c u hcu
      exact .inl ⟨c, y, by omega, y1, y2, y3⟩
    · change (splice cs off v.cells)[c]? = some u at hcu
      rw [splice_get _ _ _ (by omega)] at hcu
      split at hcu
      · rename_i hc
        obtain ⟨y, y1, y2, y3⟩ := hcellv (c - off) u hcu
        exact .inl ⟨c - off, y, by omega, y1, y2, y3⟩
      · exact .inr ⟨by omega, hcu⟩)
  refine ⟨_, ?_, rfl, rfl, q1, q2⟩
  have hjl := get_lt he
  have hcap := hok.1
  have hjz : (j + 1) * l.z ≤ l.cap * l.z := Nat.mul_le_mul_right _ (by omega)
  have e1 : (j + 1) * l.z = j * l.z + l.z := by rw [Nat.add_mul]; omega
  have hrun := run_write hok (l.base + j * l.z + off) x.cells.toList (by omega) c2
  have hne : ¬ (x.cells.size ≠ P.cellsOf ty) := by omega
  simp only [Instr.storeAt, Instr.sureAddr, storeVar, Sem.run_bind, Sem.run_pure, Result.andThen_ok, okT_size hi, if_neg hne, hrun]
theorem depth_rel {P : Program} {d : Nat} {v : V} {x : Value} (h : Rel P I w φ v x) (hd : v.depthOk d = true) (h1 : v.ok1 = true) : Rel P I w (φ.upto d) v x := by
  have one : ∀ (u : V) (y : Value), Rel P I w φ u y → depth1 d u = true → y.oneCell' = true → Rel P I w (φ.upto d) u y := by
    intro u y hu hd' hy
    cases hu with
    | p h => exact .p h
    | ptr h => exact .ptr (by simp only [depth1, decide_eq_true_eq] at hd'; unfold Phi.upto; rw [if_pos hd']; exact h)
    | rsNil h => exact .rsNil (by simp only [depth1, decide_eq_true_eq] at hd'; unfold Phi.upto; rw [if_pos hd']; exact h)
    | rs h a b => exact .rs (by simp only [depth1, decide_eq_true_eq] at hd'; unfold Phi.upto; rw [if_pos hd']; exact h) a b
    | rsE h a => exact .rsE (by simp only [depth1, decide_eq_true_eq] at hd'; unfold Phi.upto; rw [if_pos hd']; exact h) a
    | fn a b c e =>
      refine .fn a b c (fun i v x p q => ?_)
      have hr := e i v x p q
      simp only [depth1, List.all_eq_true] at hd'
      have := hd' v (List.mem_of_getElem? p)
      cases v with
      | ptr r j off =>
        simp only [decide_eq_true_eq] at this
        obtain ⟨l, hl, rfl⟩ := rel_ptr hr
        exact .ptr (by unfold Phi.upto; rw [if_pos this]; exact hl)
      | _ => simp at this
    | agg => simp [Value.oneCell'] at hy
    | tup => simp [Value.oneCell'] at hy
  cases v with
  | agg cs =>
    obtain ⟨xs, rfl, hl, hp, ho⟩ := rel_agg h
    refine .agg hl (fun i u y p q => ?_) ho
    simp only [V.depthOk] at hd
    have hy := ho y (List.mem_of_getElem? q)
    split at hd
    · exact one u y (hp i u y p q) (List.all_eq_true.1 hd u (List.mem_of_getElem? p)) hy
    · rename_i hn
      have : u.loose = false := by
        simp only [List.any_eq_true, not_exists, not_and, Bool.not_eq_true] at hn
        exact hn u (List.mem_of_getElem? p)
      exact .p (pure1 (hp i u y p q) hy this)
  | tup => simp [V.ok1] at h1
  | undef => simp [V.ok1] at h1
  | junk => simp [V.ok1] at h1
  | own => simp [V.ok1] at h1
  | _ =>
    obtain ⟨c1, c2, _⟩ := rel_cells h h1
    refine one _ x h hd ?_
    cases x with
    | agg cs =>
      exfalso
      cases h with
      | p h => cases h
    | tuple cs => exact absurd h (fun h => by cases h with | p h => cases h)
    | _ => rfl
theorem unNil1_sound {P : Program} (h : MemOk P I w φ m) (r : Ref) (off : Nat) {v : V} {x : Value} (hr : Rel P I w φ v x) :
    ∃ φ', MemOk P I w φ' (unNil1 m r off v).1 ∧ Ext I w φ I w φ' ∧ Rel P I w φ' (unNil1 m r off v).2 x ∧ (unNil1 m r off v).1.out.length = m.out.length := by
  unfold unNil1
  split
  · rename_i hn
    have hx : x = .slice none 0 0 := by
      cases v with
      | nilS => exact rel_nilS hr
      | rs r' ty off len =>
        simp only [nilIn] at hn
        split at hn
        · simp only [Bool.and_eq_true, decide_eq_true_eq] at hn
          obtain ⟨⟨h1, h2⟩, h3⟩ := hn
          subst h1; subst h2
          cases hr with
          | p h => cases h
          | rsNil h => rfl
          | rs hl _ _ =>
            exfalso
            cases hrow : m.row r' with
            | none => rw [hrow] at h3; simp at h3
            | some row =>
              rw [hrow] at h3
              obtain ⟨l', hl', hok⟩ := h.live r' row hrow (h.zero r' (by rw [hl]; simp))
              rw [hl] at hl'
              have := Option.some.inj hl'
              subst this
              exact hok.2.2.1 (by simpa using h3)
          | rsE _ h0 => exact absurd h0 (by omega)
        · simp at hn
      | _ => simp [nilIn] at hn
    split
    · rename_i rows hrows
      obtain ⟨m1, e1⟩ := step_newNilAt (P := P) h r.d r.s (500 + off) hrows 0
      refine ⟨_, m1, e1, ?_, by simp⟩
      rw [hx]
      exact .rsNil (Phi.put_same _ _ _)
    · exact ⟨φ, h, Ext.refl _ _ _, .p (.junk _ (fun _ h => by rw [hx] at h; cases h)), rfl⟩
  · exact ⟨φ, h, Ext.refl _ _ _, hr, rfl⟩
theorem unNilL_sound {P : Program} (r : Ref) : ∀ (cs : List V) (xs : List Value) (off : Nat) {m : Mem} {φ : Phi}, MemOk P I w φ m → cs.length = xs.length →
    (∀ (i : Nat) (v : V) (x : Value), cs[i]? = some v → xs[i]? = some x → Rel P I w φ v x) →
    ∃ φ', MemOk P I w φ' (unNilL m r off cs).1 ∧ Ext I w φ I w φ' ∧ cs.length = (unNilL m r off cs).2.length ∧ (∀ (i : Nat) (v : V) (x : Value), (unNilL m r off cs).2[i]? = some v → xs[i]? = some x → Rel P I w φ' v x) ∧ (unNilL m r off cs).1.out.length = m.out.length
  | [], xs, off, m, φ, h, hl, hr => ⟨φ, h, Ext.refl _ _ _, rfl, fun i v x hv _ => by simp [unNilL] at hv, rfl⟩
  | c :: cs, [], off, m, φ, h, hl, hr => by simp at hl
  | c :: cs, x :: xs, off, m, φ, h, hl, hr => by
    obtain ⟨φ1, m1, e1, r1, l1⟩ := unNil1_sound (P := P) h r off (hr 0 c x rfl rfl)
    obtain ⟨φ2, m2, e2, k2, r2, l2⟩ := unNilL_sound r cs xs (off + 1) m1 (by simpa using hl) (fun i v y a b => (hr (i + 1) v y (by simpa using a) (by simpa using b)).ext e1)
    refine ⟨φ2, m2, e1.trans e2, by simp only [unNilL, List.length_cons]; rw [k2], fun i v y a b => ?_, l2.trans l1⟩
    cases i with
    | zero =>
      simp only [unNilL, List.getElem?_cons_zero, Option.some.injEq] at a b
      subst a; subst b
      exact r1.ext e2
    | succ i => exact r2 i v y (by simpa [unNilL] using a) (by simpa using b)
theorem unNil_sound {P : Program} (h : MemOk P I w φ m) (r : Ref) (off : Nat) {v : V} {x : Value} (hr : Rel P I w φ v x) :
    ∃ φ', MemOk P I w φ' (unNil m r off v).1 ∧ Ext I w φ I w φ' ∧ Rel P I w φ' (unNil m r off v).2 x ∧ (unNil m r off v).1.out.length = m.out.length := by
  cases v with
  | agg cs =>
    simp only [unNil]
    split
    · obtain ⟨xs, rfl, hl, hr', h1⟩ := rel_agg hr
      obtain ⟨φ', m1, e1, k1, r1, l1⟩ := unNilL_sound (P := P) r cs xs off h hl hr'
      exact ⟨φ', m1, e1, .agg (by rw [← k1]; exact hl) r1 h1, l1⟩
    · exact ⟨φ, h, Ext.refl _ _ _, hr, rfl⟩
  | _ => exact unNil1_sound h r off hr
theorem op_store {ty : TypeId} {x y : Operand} (hm : MemOk X.P I w φ m) (ht : TmOk X I w φ t a) (hg : GlobOk X I w) (hop : o.op = .store ty x y) (e : evOp X m t o = some r) :
    OpPost X I w φ m r ((execOp a.eval o).run X.P w) := by
  simp only [evOp, hop] at e
  have hx := opd_rel ht hg x
  have hy := opd_rel ht hg y
  split at e
  · rename_i r0 j off h0
    rw [h0] at hx
    obtain ⟨l, hl, he⟩ := rel_ptr hx
    have fin : ∀ (I1 : Imm) (φ1 : Phi) (m1 : Mem) (row row' : Row) (v : V), MemOk X.P I1 w φ1 m1 → Ext I w φ I1 w φ1 → m1.out.length = m.out.length → m1.row r0 = some row → Rel X.P I1 w (φ1.upto r0.d) v (a.eval y) →
        row.fz = false → v.ok1 = true → (row.arr = true → v.refs = false) → okT X.P ty = true → setElem X.P row j off ty v = some row' →
        OpPost X I w φ m (.skip (m1.set r0.d r0.s r0.i row')) ((execOp a.eval o).run X.P w) := by
      intro I1 φ1 m1 row row' v hm1 e1 hlen hrow hrel hfz hok1 href hokT hset
      have hl1 := e1.phi _ _ hl
      obtain ⟨l', hl', hok⟩ := hm1.live r0 row hrow (hm1.zero r0 (by rw [hl1]; simp))
      rw [hl1] at hl'
      have := Option.some.inj hl'
      subst this
      obtain ⟨w', w1, w2, w3, w4, w5⟩ := write_elem (P := X.P) hok hfz hset hok1 hrel href hokT
      have hpl : PlainAt w' l.b := by
        obtain ⟨_, _, _, ⟨cs, tt, c1, _⟩, _⟩ := w4
        intro x hx
        rw [c1] at hx
        exact ⟨cs, tt, (Option.some.inj hx).symm⟩
      have hs := setCells_os l.b (a.eval y).cells.toList (l.base + j * l.z + off) w
      obtain ⟨q1, q2⟩ := step_rewrite (P := X.P) (row' := row') (l' := l) (φ' := φ1) (w' := w') hm1 hrow hl1 w5 (fun b hb => by rw [w2]; exact setCells_ne _ _ _ _ _ hb) (by rw [w2]; exact setCells_size _ _ _ _)
        (by rw [w2]; exact hs.1) (by rw [w2]; exact hs.2.1) (by rw [w2]; exact hs.2.2) hpl rfl (.inl ⟨w3, rfl, rfl⟩) w4
      refine ⟨w', I1, φ1, ?_, e1.trans q2, q1, by simpa using hlen⟩
      simp only [execOp, hop, he, Sem.run_bind, w1, Result.andThen_ok, Sem.run_pure]
    split at e
    · rename_i row0 hrow0
      split at e
      · rename_i harr
        split at e
        · rename_i v hv
          split at e
          · rename_i row hrow
            split at e
            · rename_i hc
              obtain ⟨hfz, hel, hok1, hokT⟩ := hc
              split at e
              · rename_i row' hset
                simp only [Option.some.injEq] at e; subst e
                obtain ⟨I1, m1, e1, c1, s1⟩ := frz_sound hm hy
                have hsn := snap_sound hm e1.imm hy c1 hv
                have hrefs : v.refs = false := by simpa [elemOk] using hel
                exact fin I1 φ _ row row' v m1 e1 s1.1 hrow (.p (pure_of hsn hrefs (.inl hok1))) hfz hok1 (fun _ => hrefs) hokT hset
              · simp at e
            · simp at e
          · simp at e
        · simp at e
      · rename_i harr
        split at e
        · rename_i row hrow
          split at e
          · rename_i hc
            obtain ⟨hfz, harr', hel, hok1, hokT⟩ := hc
            split at e
            · rename_i row' hset
              simp only [Option.some.injEq] at e; subst e
              obtain ⟨φ1, m1, e1, r1, l1⟩ := unNil_sound (P := X.P) hm r0 off hy
              exact fin I φ1 _ row row' _ m1 e1 l1 hrow (depth_rel r1 hel hok1) hfz hok1 (fun h => by rw [harr'] at h; simp at h) hokT hset
            · simp at e
          · simp at e
        · simp at e
    · simp at e
  · simp at e
end
end Go.Ev
namespace Go.Ev
section
variable {X : Env} {I : Imm} {w : World} {φ : Phi} {m : Mem} {t : Tm} {a : Act} {o : Oper} {r : OpR}
theorem cells_width (e : V) : e.cells.length = e.width := by cases e <;> rfl
theorem lies {size b o : Nat} {es : List V} (hw : ∀ (j : Nat) (e : V), es[j]? = some e → e.width = size)
    (hc : ∀ (j : Nat) (e : V) (c : Nat) (v : V), es[j]? = some e → e.cells[c]? = some v → ∃ x, w.cell? ⟨b, o + j * size + c, none⟩ = some x ∧ x.oneCell' = true ∧ RelP I w v x) :
    ∃ news : List Value, news.length = es.length * size ∧ (∀ i u, news[i]? = some u → w.cell? ⟨b, o + i, none⟩ = some u) ∧ (∀ u ∈ news, u.oneCell' = true) ∧ ElemsOk I w size es news.toArray := by
  have key : ∀ i, i < es.length * size → ∃ x, w.cell? ⟨b, o + i, none⟩ = some x ∧ x.oneCell' = true := by
    intro i hi
    have hs : 0 < size := by
      rcases Nat.eq_zero_or_pos size with h | h
      · subst h; omega
      · exact h
    have hj : i / size < es.length := Nat.div_lt_of_lt_mul (by rw [Nat.mul_comm]; exact hi)
    have hm := Nat.div_add_mod i size
    have hlt := Nat.mod_lt i hs
    have he : es[i / size]? = some es[i / size] := by simp [hj]
    have hwd := hw _ _ he
    have hcl : i % size < (es[i / size]).cells.length := by rw [cells_width, hwd]; exact hlt
    obtain ⟨x, x1, x2, _⟩ := hc _ _ (i % size) (es[i / size]).cells[i % size] he (by simp [hcl])
    refine ⟨x, ?_, x2⟩
    rw [← x1]
    congr 2
    rw [Nat.mul_comm]; omega
  have hget : ∀ i, i < es.length * size → ((List.range (es.length * size)).map fun i => (w.cell? ⟨b, o + i, none⟩).getD Go.undef)[i]? = w.cell? ⟨b, o + i, none⟩ := by
    intro i hi
    obtain ⟨x, x1, _⟩ := key i hi
    simp [List.getElem?_range hi, x1]
  refine ⟨(List.range (es.length * size)).map fun i => (w.cell? ⟨b, o + i, none⟩).getD Go.undef, by simp, ?_, ?_, by simp, ?_⟩
  · intro i u hu
    have hi : i < es.length * size := by simpa using get_lt hu
    rw [hget i hi] at hu; exact hu
  · intro u hu
    simp only [List.mem_map, List.mem_range] at hu
    obtain ⟨i, hi, rfl⟩ := hu
    obtain ⟨x, x1, x2⟩ := key i hi
    rw [x1]; exact x2
  · intro j e hj
    refine ⟨hw j e hj, fun c v hcv => ?_⟩
    obtain ⟨x, x1, x2, x3⟩ := hc j e c v hj hcv
    refine ⟨x, ?_, x2, x3⟩
    have hjl := get_lt hj
    have hcl := cells_lt hcv
    rw [hw j e hj] at hcl
    have : (j + 1) * size ≤ es.length * size := Nat.mul_le_mul_right _ hjl
    have e1 : (j + 1) * size = j * size + size := by rw [Nat.add_mul]; omega
    have h2 := hget (j * size + c) (by omega)
    rw [← Nat.add_assoc, x1] at h2
    simpa using h2
structure SrcOk (P : Program) (I : Imm) (w : World) (size : Nat) (tx : TypeId) (xv : Value) (xs : List V) : Prop where
  mk ::
  get : ∃ news : List Value, Src P size tx xv xs.length news w ∧ news.length = xs.length * size ∧ (∀ u ∈ news, u.oneCell' = true) ∧ ElemsOk I w size xs news.toArray
theorem elemsOf_sound {P : Program} (hm : MemOk P I w φ m) {x : V} {xv : Value} {xs : List V} {size : Nat} {tx e' : TypeId} (hr : Rel P I w φ x xv) (h : elemsOf m x = some xs)
    (hw : xs.all (fun v => decide (v.width = size)) = true) (hk : P.underlying tx = some (.slice e')) : SrcOk P I w size tx xv xs := by
  have hw' : ∀ (j : Nat) (e : V), xs[j]? = some e → e.width = size := fun j e hj => by simpa using List.all_eq_true.1 hw e (List.mem_of_getElem? hj)
  have nil : ∀ (ad : Option Addr) (c : Nat), SrcOk P I w size tx (.slice ad 0 c) [] := by
    intro ad c
    refine ⟨[], ?_, by simp, by simp, by simp, fun j e hj => by simp at hj⟩
    cases ad with
    | none => exact Src.ofNil w hk c
    | some ad => exact Src.ofSlice w hk ad 0 c [] (by simp) (fun j u hu => by simp at hu) (by simp)
  have some' : ∀ (b of c : Nat), (∀ (j : Nat) (e : V) (c : Nat) (v : V), xs[j]? = some e → e.cells[c]? = some v → ∃ x, w.cell? ⟨b, of + j * size + c, none⟩ = some x ∧ x.oneCell' = true ∧ RelP I w v x) →
      SrcOk P I w size tx (.slice (some ⟨b, of, none⟩) xs.length c) xs := by
    intro b of c hc
    obtain ⟨news, n1, n2, n3, n4⟩ := lies hw' hc
    exact ⟨news, Src.ofSlice w hk ⟨b, of, none⟩ xs.length c news n1 (fun j u hu => by rw [add_off]; exact n2 j u hu) n3, n1, n3, n4⟩
  cases x with
  | sl es =>
    simp only [elemsOf, Option.some.injEq] at h; subst h
    obtain ⟨ad, cap, rfl, hcap, hes⟩ := rel_sl hr
    rcases hes with rfl | ⟨b, of, z, ys, rfl, g1, g2, g3⟩
    · exact nil ad cap
    · refine some' b of cap (fun j e c v hj hcv => ?_)
      have : z = size := by rw [← g1 j e hj, hw' j e hj]
      subst this
      obtain ⟨k1, _, k3⟩ := g2 j e c v hj hcv
      exact ⟨_, k1, k3, g3 j e c v hj hcv⟩
  | nilS =>
    simp only [elemsOf, Option.some.injEq] at h; subst h
    rw [rel_nilS hr]
    exact nil none 0
  | rs r0 rty off len =>
    simp only [elemsOf] at h
    split at h
    · rename_i row hrow
      split at h
      · rename_i hc
        simp only [Option.some.injEq] at h; subst h
        have hlen := cut_length row.es off len hc.2
        rcases rel_rs hr with ⟨hl, rfl, rfl, rfl⟩ | ⟨l, hl, hcap, hz, rfl⟩ | ⟨l, ad, hl, hoff, rfl, rfl⟩
        · have : cut row.es 0 0 = [] := by simp [cut]
          rw [this]; exact nil none 0
        · obtain ⟨l', hl', hok⟩ := hm.live r0 row hrow (hm.zero r0 (by rw [hl]; simp))
          rw [hl] at hl'
          have := Option.some.inj hl'
          subst this
          obtain ⟨_, _, _, _, k5, k6, _, _⟩ := hok
          have hk6 : ∀ (j : Nat) (e : V) (c : Nat) (v : V), (cut row.es off len)[j]? = some e → e.cells[c]? = some v → ∃ x, w.cell? ⟨l.b, l.base + off * l.z + j * size + c, none⟩ = some x ∧ x.oneCell' = true ∧ RelP I w v x := by
            intro j e c v hj hcv
            obtain ⟨hj', _⟩ := cut_get _ _ _ _ _ hj
            obtain ⟨x, x1, x2, x3⟩ := k6 _ e c v hj' hcv
            rw [if_pos hc.1] at x3
            have hsz : l.z = size := by rw [← k5 _ e hj', hw' j e hj]
            refine ⟨x, ?_, x2, x3⟩
            rw [← hsz, show l.base + off * l.z + j * l.z + c = l.base + (off + j) * l.z + c by rw [Nat.add_mul]; omega]
            exact x1
          have := some' l.b (l.base + off * l.z) (l.cap - off) hk6
          rw [hlen] at this
          exact this
        · have : cut row.es off 0 = [] := by simp [cut]
          rw [this]; exact nil ad 0
      · simp at h
    · simp at h
  | _ => simp [elemsOf] at h
theorem bytes_src {P : Program} (s : List UInt8) {tx : TypeId} (hk : P.underlying tx = some .string) : SrcOk P I w 1 tx (.string ⟨s.toArray⟩) (s.map fun c => V.int .u8 c.toNat) := by
  have hb : byteCells ⟨s.toArray⟩ = s.map fun c => Value.int .u8 c.toNat := by simp [byteCells]
  have hsz : (⟨s.toArray⟩ : ByteArray).size = s.length := by simp [ByteArray.size]
  refine ⟨byteCells ⟨s.toArray⟩, ?_, ?_, ?_, ?_⟩
  · have := Src.ofString (P := P) w hk ⟨s.toArray⟩
    rw [hsz] at this
    simpa using this
  · rw [byteCells_length, hsz]; simp
  · intro u hu
    rw [hb] at hu
    obtain ⟨c, _, rfl⟩ := List.mem_map.1 hu
    rfl
  · rw [hb]
    refine ⟨by simp, fun j e hj => ?_⟩
    simp only [List.getElem?_map, Option.map_eq_some_iff] at hj
    obtain ⟨c, hc, rfl⟩ := hj
    refine ⟨rfl, fun k v hk => ?_⟩
    cases k with
    | succ k => simp [V.cells] at hk
    | zero =>
      simp [V.cells] at hk; subst hk
      exact ⟨.int .u8 c.toNat, by simp [hc], rfl, .int _ _⟩
theorem elems_append {size : Nat} {xs ys : List V} {A B : List Value} (hA : ElemsOk I w size xs A.toArray) (hB : ElemsOk I w size ys B.toArray) (hl : A.length = xs.length * size) (C : Array Value) :
    ElemsOk I w size (xs ++ ys) ((A ++ B).toArray ++ C) := by
  refine ⟨?_, fun j e hj => ?_⟩
  · have := hB.1
    simp only [List.length_append, Array.size_append, List.size_toArray, Nat.add_mul] at this ⊢
    omega
  · rcases Nat.lt_or_ge j xs.length with h | h
    · rw [List.getElem?_append_left h] at hj
      obtain ⟨k1, k2⟩ := hA.2 j e hj
      refine ⟨k1, fun c v hcv => ?_⟩
      obtain ⟨x, x1, x2, x3⟩ := k2 c v hcv
      refine ⟨x, ?_, x2, x3⟩
      simp only [List.getElem?_toArray] at x1
      have hlt := get_lt x1
      rw [Array.getElem?_append_left (by simp; omega)]
      simp only [List.getElem?_toArray]
      rw [List.getElem?_append_left hlt]; exact x1
    · rw [List.getElem?_append_right h] at hj
      obtain ⟨k1, k2⟩ := hB.2 _ e hj
      refine ⟨k1, fun c v hcv => ?_⟩
      obtain ⟨x, x1, x2, x3⟩ := k2 c v hcv
      refine ⟨x, ?_, x2, x3⟩
      simp only [List.getElem?_toArray] at x1
      have hlt := get_lt x1
      have e1 : j * size + c = A.length + ((j - xs.length) * size + c) := by
        rw [hl, ← Nat.add_assoc, ← Nat.add_mul]; congr 2; omega
      rw [e1, Array.getElem?_append_left (by simp; omega)]
      simp only [List.getElem?_toArray]
      rw [List.getElem?_append_right (by omega)]
      simpa using x1
theorem append_args {P : Program} {tys : Array TypeId} {t0 tx : TypeId} (h0 : tys[0]? = some t0) (h1 : tys[1]? = some tx) (ty : TypeId) (args : Array Value) :
    Builtin.append_ tys ty args = Builtin.append_ #[t0, tx] ty args := by
  unfold Builtin.append_
  simp only [h0, h1]
  rfl
end
end Go.Ev
namespace Go.Ev
section
variable {X : Env} {I : Imm} {w : World} {φ : Phi} {m : Mem} {t : Tm} {a : Act} {o : Oper} {r : OpR}
theorem zero_info {P : Program} {ty : TypeId} (h : (zeroOf P ty).isSome = true) : ∃ i z, P.info? ty = some i ∧ i.zero = some z ∧ ty ≠ 0 ∧ i.size = P.cellsOf ty ∧ i.bytes = P.bytesOf ty ∧ z.cells.size = P.cellsOf ty := by
  obtain ⟨v, hv⟩ := Option.isSome_iff_exists.1 h
  unfold zeroOf at hv
  cases hi : P.info? ty with
  | none => simp [hi] at hv
  | some i =>
    cases hz : i.zero with
    | none => simp [hi, hz] at hv
    | some z =>
      simp only [hi, hz, Option.bind_some] at hv
      split at hv
      · rename_i hc
        refine ⟨i, z, rfl, hz, hc.1, by simp [Program.cellsOf, hi], by simp [Program.bytesOf, hi], ?_⟩
        have w0 : World := default
        have := (rel_cells (P := P) (I := fun _ _ => False) (w := w0) (φ := fun _ => none) (.p (relP_ofValue z)) hc.2.1).2.2
        rw [this, hc.2.2.2]
      · simp at hv
theorem app_grow {P : Program} (hm : MemOk P I w φ m) (hold : ∀ b o, I b o → b < w.heap.size) {d s i : Nat} {rows : Rows} (hr : m.rows d = some rows) {t0 tx ty ty' : TypeId} (hu : P.underlying t0 = some (.slice ty))
    (hz : (zeroOf P ty).isSome = true) {base : Option Addr} {cap : Nat} {es0 : List V} {olds : List Value} (hfc : (Builtin.firstCells (P.cellsOf ty) es0.length (.slice base es0.length cap)).run P w.drew = .ok olds.toArray w.drew)
    (ho1 : ElemsOk I w (P.cellsOf ty) es0 olds.toArray) (ho2 : olds.length = es0.length * P.cellsOf ty) {xs : List V} {xv : Value} (hs : SrcOk P I w (P.cellsOf ty) tx xv xs)
    (hgrow : cap < es0.length + xs.length) (hbig : (es0.length + xs.length) * (P.bytesOf ty + P.cellsOf ty + 1) ≤ Ev.maxLen) :
    ∃ y w' φ', (Builtin.append_ #[t0, tx] ty' #[.slice base es0.length cap, xv]).run P w = .ok y w' ∧
      MemOk P I w' φ' (m.set d s i { g := (rows.get s i).g + 1, ty, arr := true, fz := false, es := es0 ++ xs }) ∧ Ext I w φ I w' φ' ∧
      Rel P I w' φ' (.rs ⟨d, s, i, (rows.get s i).g + 1⟩ ty 0 (es0.length + xs.length)) y := by
  obtain ⟨ie, z, hie, hiz, h0, hsz, hby, hzc⟩ := zero_info hz
  obtain ⟨news, n1, n2, n3, n4⟩ := hs.get
  have hb : (es0.length + xs.length) * (P.bytesOf ty + P.cellsOf ty + 1) ≤ 1099511627776 := hbig
  have hb1 : es0.length + xs.length ≤ 1099511627776 := Nat.le_trans (Nat.le_mul_of_pos_right _ (by omega)) hb
  have hb2 : (es0.length + xs.length) * P.bytesOf ty ≤ 1099511627776 := Nat.le_trans (Nat.mul_le_mul_left _ (by omega)) hb
  have hrun := run_append_grow_src (P := P) w t0 tx ty' ty ie z hu hie hiz base es0.length cap olds (by rw [hsz]; exact hfc) xv xs.length news (by rw [hsz]; exact n1) hgrow (by omega)
    (growslice_fits hgrow (by rw [hby]; omega))
  have hge := grownCap_ge w (es0.length + xs.length) cap ty
  obtain ⟨m1, e1⟩ := step_drew (P := P) hm
  have hE : ElemsOk I w.drew (P.cellsOf ty) (es0 ++ xs) ((olds ++ news).toArray ++ Builtin.zeroCells z.cells (grownCap w (es0.length + xs.length) cap ty - (es0.length + xs.length))) :=
    elems_append (w := w.drew) ⟨ho1.1, fun j e hj => ⟨(ho1.2 j e hj).1, fun c v hc => by
      obtain ⟨x, x1, x2, x3⟩ := (ho1.2 j e hj).2 c v hc
      exact ⟨x, x1, x2, x3.ext e1⟩⟩⟩ ⟨n4.1, fun j e hj => ⟨(n4.2 j e hj).1, fun c v hc => by
      obtain ⟨x, x1, x2, x3⟩ := (n4.2 j e hj).2 c v hc
      exact ⟨x, x1, x2, x3.ext e1⟩⟩⟩ ho2 _
  have hsize : grownCap w (es0.length + xs.length) cap ty * P.cellsOf ty ≤ ((olds ++ news).toArray ++ Builtin.zeroCells z.cells (grownCap w (es0.length + xs.length) cap ty - (es0.length + xs.length))).size := by
    have hzs : (Builtin.zeroCells z.cells (grownCap w (es0.length + xs.length) cap ty - (es0.length + xs.length))).size = (grownCap w (es0.length + xs.length) cap ty - (es0.length + xs.length)) * P.cellsOf ty := by
      simp [Builtin.zeroCells, hzc]
    rw [Array.size_append, hzs]
    simp only [List.size_toArray, List.length_append, ho2, n2]
    rw [← Nat.add_mul, ← Nat.add_mul]
    exact Nat.mul_le_mul_right _ (by omega)
  have hheap : w.drew.heap.size = w.heap.size := rfl
  obtain ⟨m2, e2⟩ := step_newAt (I := I) (w := w.drew) m1 d s i hr ty true (es0 ++ xs) _ ty (P.cellsOf ty) (grownCap w (es0.length + xs.length) cap ty) (by simpa using hge) rfl h0 hsize
    (fun j e hj => (hE.2 j e hj).1)
    (fun j e c u hj hc => by
      obtain ⟨x, x1, x2, x3⟩ := (hE.2 j e hj).2 c u hc
      exact ⟨x, x1, x2, by simpa using x3⟩)
    (fun o ho => by have := hold _ _ ho; rw [hheap] at this; omega)
  refine ⟨_, _, _, hrun, m2, e1.trans e2, ?_⟩
  have := Rel.rs (P := P) (I := I) (w := w.drew.alloc (.cells ((olds ++ news).toArray ++ Builtin.zeroCells z.cells (grownCap w (es0.length + xs.length) cap ty - (es0.length + xs.length))) ty))
    (φ := φ.put ⟨d, s, i, (rows.get s i).g + 1⟩ (some ⟨w.drew.heap.size, 0, P.cellsOf ty, grownCap w (es0.length + xs.length) cap ty⟩)) (r := ⟨d, s, i, (rows.get s i).g + 1⟩) (ty := ty) (off := 0) (len := es0.length + xs.length)
    (l := ⟨w.drew.heap.size, 0, P.cellsOf ty, grownCap w (es0.length + xs.length) cap ty⟩) (Phi.put_same _ _ _) (by simpa using hge) rfl
  simpa using this
theorem app_nil {P : Program} (hm : MemOk P I w φ m) (hold : ∀ b o, I b o → b < w.heap.size) {d s i : Nat} {rows : Rows} (hr : m.rows d = some rows) {t0 tx ty ty' : TypeId} (hu : P.underlying t0 = some (.slice ty))
    (hz : (zeroOf P ty).isSome = true) {xs : List V} {xv : Value} (hs : SrcOk P I w (P.cellsOf ty) tx xv xs) (hbig : xs.length * (P.bytesOf ty + P.cellsOf ty + 1) ≤ Ev.maxLen) :
    ∃ y w' φ', (Builtin.append_ #[t0, tx] ty' #[.slice none 0 0, xv]).run P w = .ok y w' ∧
      MemOk P I w' φ' (m.set d s i { g := (rows.get s i).g + 1, ty, arr := true, fz := false, es := xs }) ∧ Ext I w φ I w' φ' ∧
      Rel P I w' φ' (.rs ⟨d, s, i, (rows.get s i).g + 1⟩ ty 0 xs.length) y := by
  cases xs with
  | nil =>
    obtain ⟨ie, z, hie, hiz, h0, hsz, hby, hzc⟩ := zero_info hz
    obtain ⟨news, n1, n2, n3, n4⟩ := hs.get
    have hnil : news = [] := by simpa using n2
    subst hnil
    obtain ⟨m1, e1⟩ := step_newNilAt (P := P) hm d s i hr ty
    refine ⟨_, _, _, run_append_nothing (P := P) w t0 tx ty' ty ie hu hie none 0 0 (Nat.le_refl _) xv (by rw [hsz]; exact n1), m1, e1, ?_⟩
    exact .rsNil (Phi.put_same _ _ _)
  | cons x0 xs0 =>
    have := app_grow (P := P) (ty' := ty') hm hold hr (s := s) (i := i) hu hz (base := none) (cap := 0) (es0 := []) (olds := []) (run_firstCells_none _ _ _ _ _) ⟨by simp, fun j e hj => by simp at hj⟩ (by simp) hs (by simp) (by simpa using hbig)
    simpa using this
theorem app_room {P : Program} (hm : MemOk P I w φ m) {r : Ref} {row : Row} {l : Loc} (hrow : m.row r = some row) (hl : φ r = some (some l)) (hfz : row.fz = false) (ha : row.arr = true)
    {t0 tx ty ty' : TypeId} (hu : P.underlying t0 = some (.slice ty)) (hz : (zeroOf P ty).isSome = true) (hty : row.ty = ty) {off len : Nat} (hlen : off + len ≤ row.es.length)
    {xs : List V} {xv : Value} (hs : SrcOk P I w (P.cellsOf ty) tx xv xs) (hroom : len + xs.length ≤ l.cap - off) :
    ∃ y w' φ', (Builtin.append_ #[t0, tx] ty' #[.slice (some ⟨l.b, l.base + off * l.z, none⟩) len (l.cap - off), xv]).run P w = .ok y w' ∧
      MemOk P I w' φ' (m.set r.d r.s r.i { row with g := row.g + 1, ty, es := cut row.es off len ++ xs }) ∧ Ext I w φ I w' φ' ∧
      Rel P I w' φ' (.rs { r with g := row.g + 1 } ty 0 (len + xs.length)) y := by
  obtain ⟨l', hl', hok⟩ := hm.live r row hrow (hm.zero r (by rw [hl]; simp))
  rw [hl] at hl'
  have := Option.some.inj hl'
  subst this
  obtain ⟨h1, h2, h3, ⟨cs, tt, h4, h4'⟩, h5, h6, h7, h8⟩ := hok
  obtain ⟨ie, z, hie, hiz, h0, hsz, hby, hzc⟩ := zero_info hz
  obtain ⟨news, n1, n2, n3, n4⟩ := hs.get
  have hz' : l.z = P.cellsOf ty := by rw [h2, hty]
  rw [← hz'] at n2 n4
  have hcl := cut_length row.es off len hlen
  have hcap1 : off + (len + xs.length) ≤ l.cap := by omega
  have hmul : (off + (len + xs.length)) * l.z ≤ l.cap * l.z := Nat.mul_le_mul_right _ hcap1
  have hexp : (off + (len + xs.length)) * l.z = off * l.z + len * l.z + xs.length * l.z := by rw [Nat.add_mul, Nat.add_mul]; omega
  have hI : ∀ o, l.base ≤ o → ¬ I l.b o := fun o ho => h7 o ho (fun hf => by rw [hfz] at hf; simp at hf)
  have hcell : ∀ b o x, I b o → w.cell? ⟨b, o, none⟩ = some x → (w.setCells l.b (l.base + off * l.z + len * l.z) news).cell? ⟨b, o, none⟩ = some x := by
    intro b o x hi hx
    rw [World.cell?_setCells_out, hx]
    intro hb _
    simp only at hb ⊢
    subst hb
    have : ¬ l.base ≤ o := fun ho => hI o ho hi
    left; omega
  have hrun := run_append_room_src (P := P) w t0 tx ty' ty ie hu hie l.b (l.base + off * l.z) len (l.cap - off) xv xs.length news (by rw [hsz]; exact n1) hroom
    (fun j hj => by rw [cell_of_heap h4, hsz, ← hz']; simp; omega) (fun j hj => frozen_of_heap h4 _)
  rw [hsz, ← hz'] at hrun
  have hgn : r.g = row.g := ((Mem.row_eq _ _ _).1 hrow).choose_spec.2.2.symm
  obtain ⟨cs', c1, c2⟩ := setCells_same l.b news (l.base + off * l.z + len * l.z) w cs tt (0, 0) h4
  have hnew : RowOk P I (w.setCells l.b (l.base + off * l.z + len * l.z) news) ((φ.put { r with g := row.g + 1 } (some ⟨l.b, l.base + off * l.z, l.z, l.cap - off⟩)).upto r.d)
      { row with g := row.g + 1, ty, es := cut row.es off len ++ xs } (some ⟨l.b, l.base + off * l.z, l.z, l.cap - off⟩) := by
    refine ⟨by simp only [List.length_append, hcl]; omega, hz', h0, ⟨cs', tt, c1, ?_⟩, ?_, ?_, ?_, ?_⟩
    · simp only
      rw [c2]
      have : off * l.z + (l.cap - off) * l.z = l.cap * l.z := by rw [← Nat.add_mul]; congr 1; omega
      omega
    · intro j e hj
      simp only at hj ⊢
      rcases Nat.lt_or_ge j (cut row.es off len).length with h | h
      · rw [List.getElem?_append_left h] at hj
        exact h5 _ e (cut_get _ _ _ _ _ hj).1
      · rw [List.getElem?_append_right h] at hj
        exact (n4.2 _ e hj).1
    · intro j e c v hj hcv
      simp only at hj
      simp only [ha, if_true]
      rcases Nat.lt_or_ge j (cut row.es off len).length with h | h
      · rw [List.getElem?_append_left h] at hj
        obtain ⟨hj', hjl⟩ := cut_get _ _ _ _ _ hj
        obtain ⟨x, x1, x2, x3⟩ := h6 _ e c v hj' hcv
        rw [if_pos ha] at x3
        have hcl' := cells_lt hcv
        rw [h5 _ e hj'] at hcl'
        refine ⟨x, ?_, x2, x3.mono (fun _ _ h => h) hcell⟩
        rw [World.cell?_setCells_out]
        · rw [show l.base + off * l.z + j * l.z + c = l.base + (off + j) * l.z + c by rw [Nat.add_mul]; omega]
          exact x1
        · intro _ _
          simp only
          have : (j + 1) * l.z ≤ len * l.z := Nat.mul_le_mul_right _ hjl
          have : (j + 1) * l.z = j * l.z + l.z := by rw [Nat.add_mul]; omega
          left; omega
      · rw [List.getElem?_append_right h] at hj
        obtain ⟨k1, k2⟩ := n4.2 _ e hj
        obtain ⟨x, x1, x2, x3⟩ := k2 c v hcv
        refine ⟨x, ?_, x2, x3.mono (fun _ _ h => h) hcell⟩
        simp only [List.getElem?_toArray] at x1
        have hlt := get_lt x1
        have := World.cell?_setCells_in l.b news (l.base + off * l.z + len * l.z) w (fun i hi => by rw [cell_of_heap h4]; simp; omega) _ hlt
        rw [List.getElem?_eq_getElem hlt] at x1
        have e2 : l.base + off * l.z + j * l.z + c = l.base + off * l.z + len * l.z + ((j - (cut row.es off len).length) * l.z + c) := by
          rw [hcl] at h ⊢
          have : j * l.z = len * l.z + (j - len) * l.z := by rw [← Nat.add_mul]; congr 1; omega
          omega
        rw [e2, this]
        exact x1
    · intro o ho hf
      simp only at ho
      exact hI o (by omega)
    · intro hf
      simp only at hf
      rw [hfz] at hf
      simp at hf
  have hpl : PlainAt (w.setCells l.b (l.base + off * l.z + len * l.z) news) l.b := by
    intro x hx
    rw [c1] at hx
    exact ⟨cs', tt, (Option.some.inj hx).symm⟩
  have hs := setCells_os l.b news (l.base + off * l.z + len * l.z) w
  obtain ⟨q1, q2⟩ := step_rewrite (P := P) (l' := ⟨l.b, l.base + off * l.z, l.z, l.cap - off⟩) hm hrow hl hcell (fun b hb => setCells_ne _ _ _ _ _ hb) (setCells_size _ _ _ _) hs.1 hs.2.1 hs.2.2 hpl rfl
    (.inr ⟨rfl, rfl⟩) hnew
  refine ⟨_, _, _, hrun, q1, q2, ?_⟩
  have := Rel.rs (P := P) (I := I) (w := w.setCells l.b (l.base + off * l.z + len * l.z) news) (φ := φ.put { r with g := row.g + 1 } (some ⟨l.b, l.base + off * l.z, l.z, l.cap - off⟩)) (r := { r with g := row.g + 1 }) (ty := ty) (off := 0)
    (len := len + xs.length) (l := ⟨l.b, l.base + off * l.z, l.z, l.cap - off⟩) (Phi.put_same _ _ _) (by simpa using hroom) hz'
  simpa using this
theorem appendTo_sound {s : V} {sv xv : Value} {xs : List V} {dst : Nat} {t0 tx ty ty' : TypeId} {p : V × Mem} (hm : MemOk X.P I w φ m) (hold : ∀ b o, I b o → b < w.heap.size) (hsr : Rel X.P I w φ s sv)
    (hu : X.P.underlying t0 = some (.slice ty)) (hsrc : xs.all (fun v => decide (v.width = X.P.cellsOf ty)) = true → SrcOk X.P I w (X.P.cellsOf ty) tx xv xs) (e : appendTo X m dst ty s xs = some p) :
    ∃ y w' φ', (Builtin.append_ #[t0, tx] ty' #[sv, xv]).run X.P w = .ok y w' ∧ MemOk X.P I w' φ' p.2 ∧ Ext I w φ I w' φ' ∧ Rel X.P I w' φ' p.1 y ∧ p.2.out.length = m.out.length := by
  unfold appendTo at e
  split at e
  · rename_i r0 rty off len
    split at e
    · rename_i row hrow
      split at e
      · rename_i hc
        obtain ⟨hfz, ha, hz, hw, hbig, hty, hlen, hoff⟩ := hc
        simp only [Option.some.injEq] at e; subst e
        have hs := hsrc hw
        obtain ⟨rows, hr1, hr2, hr3⟩ := (Mem.row_eq _ _ _).1 hrow
        have hg : row = { g := row.g, ty := row.ty, arr := true, fz := false, es := row.es } := by cases row; simp_all
        rcases rel_rs hsr with ⟨hl, rfl, rfl, rfl⟩ | ⟨l, hl, hcap, hzc, rfl⟩ | ⟨l, ad, hl, hoff', rfl, rfl⟩
        · have hnil : cut row.es 0 0 = [] := by simp [cut]
          obtain ⟨y, w', φ', q1, q2, q3, q4⟩ := app_nil (P := X.P) (ty' := ty') hm hold (s := r0.s) (i := r0.i) hr1 hu hz hs (by simpa using hbig)
          rw [hr2] at q2 q4
          refine ⟨y, w', φ', q1, ?_, q3, ?_, by simp⟩
          · simp only [hnil, List.nil_append]
            have e2 : ({ row with g := row.g + 1, ty, es := xs } : Row) = { g := row.g + 1, ty, arr := true, fz := false, es := xs } := by rw [hfz, ha]
            rw [e2]; exact q2
          · simpa using q4
        · have hg0 := hm.zero r0 (by rw [hl]; simp)
          obtain ⟨l', hl', hok⟩ := hm.live r0 row hrow hg0
          rw [hl] at hl'
          have := Option.some.inj hl'
          subst this
          have htyr : row.ty = ty := by
            rcases hty with h | ⟨h, _⟩
            · exact h
            · exact absurd h hok.2.2.1
          by_cases hroom : len + xs.length ≤ l.cap - off
          · obtain ⟨y, w', φ', q1, q2, q3, q4⟩ := app_room (P := X.P) (ty' := ty') hm hrow hl hfz ha hu hz htyr hlen hs hroom
            exact ⟨y, w', φ', q1, q2, q3, q4, by simp⟩
          · have hz' : l.z = X.P.cellsOf ty := by rw [hok.2.1, htyr]
            obtain ⟨h1, h2, h3, h4, h5, h6, h7, h8⟩ := hok
            have hcl := cut_length row.es off len hlen
            obtain ⟨olds, o1, o2, o3, o4⟩ := lies (I := I) (w := w) (size := X.P.cellsOf ty) (b := l.b) (o := l.base + off * l.z) (es := cut row.es off len) (fun j e hj => by rw [h5 _ e (cut_get _ _ _ _ _ hj).1, hz'])
              (fun j e c v hj hcv => by
                obtain ⟨hj', _⟩ := cut_get _ _ _ _ _ hj
                obtain ⟨x, x1, x2, x3⟩ := h6 _ e c v hj' hcv
                rw [if_pos ha] at x3
                refine ⟨x, ?_, x2, x3⟩
                rw [← hz', show l.base + off * l.z + j * l.z + c = l.base + (off + j) * l.z + c by rw [Nat.add_mul]; omega]
                exact x1)
            have hfc := run_firstCells_some (P := X.P) w.drew (X.P.cellsOf ty) (cut row.es off len).length ⟨l.b, l.base + off * l.z, none⟩ (cut row.es off len).length (l.cap - off) olds o1 (fun j v hv => by rw [add_off]; exact o2 j v hv)
            obtain ⟨y, w', φ', q1, q2, q3, q4⟩ := app_grow (P := X.P) (ty' := ty') hm hold (s := r0.s) (i := r0.i) hr1 hu hz hfc o4 o1 hs (by rw [hcl]; omega) (by rw [hcl]; exact hbig)
            rw [hr2] at q2 q4
            rw [hcl] at q1 q4
            refine ⟨y, w', φ', q1, ?_, q3, q4, by simp⟩
            have e2 : ({ row with g := row.g + 1, ty, es := cut row.es off len ++ xs } : Row) = { g := row.g + 1, ty, arr := true, fz := false, es := cut row.es off len ++ xs } := by rw [hfz, ha]
            rw [e2]; exact q2
        · omega
      · simp at e
    · simp at e
  · split at e
    · rename_i hc
      obtain ⟨hz, hw, hbig⟩ := hc
      simp only [Option.some.injEq] at e; subst e
      rw [rel_nilS hsr]
      obtain ⟨y, w', φ', q1, q2, q3, q4⟩ := app_nil (P := X.P) (ty' := ty') hm hold (s := dst) (i := 0) (Mem.rows_own m) hu hz (hsrc hw) hbig
      refine ⟨y, w', φ', q1, ?_, q3, q4, rfl⟩
      rw [Mem.new_eq]; exact q2
    · simp at e
  · simp at e
end
end Go.Ev
namespace Go.Ev
section
variable {X : Env} {I : Imm} {w : World} {φ : Phi} {m : Mem} {t : Tm} {a : Act} {o : Oper} {r : OpR}
theorem args1 {c : Call} {ρ : Operand → Value} {x : Value} (h : c.args.toList.map ρ = [x]) : c.args.map ρ = #[x] := by
  apply Array.ext'; simpa using h
theorem args2 {c : Call} {ρ : Operand → Value} {x y : Value} (h : c.args.toList.map ρ = [x, y]) : c.args.map ρ = #[x, y] := by
  apply Array.ext'; simpa using h
theorem args3 {c : Call} {ρ : Operand → Value} {x y z : Value} (h : c.args.toList.map ρ = [x, y, z]) : c.args.map ρ = #[x, y, z] := by
  apply Array.ext'; simpa using h
theorem run_builtin {c : Call} {b : Builtin} (hop : o.op = .call c) (hb : c.callee = .builtin b) :
    ∃ cs, (execOp a.eval o).run X.P w = (Go.builtin b c.argTypes o.type cs (c.args.map a.eval)).run X.P w := by
  simp only [execOp, hop, resolve, hb, Sem.run_bind, Sem.run_pure, Result.andThen_ok, invoke]
  exact ⟨_, rfl⟩
theorem op_builtin {c : Call} {b : Builtin} (hm : MemOk X.P I w φ m) (hold : ∀ b o, I b o → b < w.heap.size) (ht : TmOk X I w φ t a) (hg : GlobOk X I w) (hop : o.op = .call c) (hb : c.callee = .builtin b)
    (e : Ev.builtin X m (o.dst.getD 0) b c.argTypes (mapOpd X t c.args.toList) = some r) : OpPost X I w φ m r ((execOp a.eval o).run X.P w) := by
  obtain ⟨consts, hrun⟩ := run_builtin (X := X) (w := w) (a := a) hop hb
  rw [hrun]
  have hargs := opds_rel ht hg c.args.toList
  generalize hvs : mapOpd X t c.args.toList = vs at e hargs
  cases b with
  | len =>
    unfold Ev.builtin at e
    split at e
    · rename_i v hbb
      obtain ⟨x, ys, hxs, hx, hys⟩ := hargs.head
      have := hys.nil_left
      subst this
      have ha := args1 hxs
      rw [ha]
      split at e
      · rename_i s hu
        simp only [Option.some.injEq] at e; subst e
        obtain ⟨t0, h0, hu0⟩ := Option.bind_eq_some_iff.1 hu
        rw [rel_str hx]
        refine post_same hm (.p (.int .i64 s.length)) (run_v ?_)
        have hsz : (⟨s.toArray⟩ : ByteArray).size = s.length := by simp [ByteArray.size]
        simp [Builtin.len_, h0, run_underlying hu0, goInt, hsz]
      · rename_i es hu
        simp only [Option.some.injEq] at e; subst e
        obtain ⟨t0, h0, hu0⟩ := Option.bind_eq_some_iff.1 hu
        obtain ⟨ad, cap, rfl, _⟩ := rel_sl hx
        refine post_same hm (.p (.int .i64 es.length)) (run_v ?_)
        simp [Builtin.len_, h0, run_underlying hu0, goInt]
      · rename_i e0 r0 ty off len hu
        simp only [Option.some.injEq] at e; subst e
        obtain ⟨t0, h0, hu0⟩ := Option.bind_eq_some_iff.1 hu
        have hv : ∃ ad cap, x = .slice ad len cap := by
          rcases rel_rs hx with ⟨_, _, rfl, rfl⟩ | ⟨l, _, _, _, rfl⟩ | ⟨l, ad, _, _, rfl, rfl⟩
          · exact ⟨_, _, rfl⟩
          · exact ⟨_, _, rfl⟩
          · exact ⟨_, _, rfl⟩
        obtain ⟨ad, cap, rfl⟩ := hv
        refine post_same hm (.p (.int .i64 len)) (run_v ?_)
        simp [Builtin.len_, h0, run_underlying hu0, goInt]
      · rename_i e0 hu
        simp only [Option.some.injEq] at e; subst e
        obtain ⟨t0, h0, hu0⟩ := Option.bind_eq_some_iff.1 hu
        rw [rel_nilS hx]
        refine post_same hm (.p (.int .i64 0)) (run_v ?_)
        simp [Builtin.len_, h0, run_underlying hu0, goInt]
      · simp at e
    all_goals first | (rename_i h; simp at h; done) | (simp at e; done) | skip
    all_goals rename_i h1 h2; simp_all
  | append =>
    unfold Ev.builtin at e
    split at e
    · rename_i h; simp at h
    · rename_i s x hbb
      obtain ⟨sv, ys, hxs, hs, hys⟩ := hargs.head
      obtain ⟨xv, zs, rfl, hx, hzs⟩ := hys.head
      have := hzs.nil_left
      subst this
      rw [args2 hxs]
      split at e
      · rename_i ty d hty hd
        obtain ⟨t0, h0, hty⟩ := Option.bind_eq_some_iff.1 hty
        obtain ⟨tx, h1, hd⟩ := Option.bind_eq_some_iff.1 hd
        have hu := slElem_some hty
        have fin : ∀ xs : List V, (xs.all (fun v => decide (v.width = X.P.cellsOf ty)) = true → SrcOk X.P I w (X.P.cellsOf ty) tx xv xs) →
            (appendTo X m (o.dst.getD 0) ty s xs).map (fun p => OpR.val p.1 p.2) = some r →
            OpPost X I w φ m r ((Go.builtin .append c.argTypes o.type consts #[sv, xv]).run X.P w) := by
          intro xs hsrc e
          obtain ⟨p, hp, rfl⟩ := Option.map_eq_some_iff.1 e
          obtain ⟨y, w', φ', q1, q2, q3, q4, q5⟩ := appendTo_sound (ty' := o.type) hm hold hs hu hsrc hp
          refine ⟨y, w', I, φ', ?_, q3, q2, q4, q5⟩
          show (do pure (Next.value (← Builtin.append_ c.argTypes o.type #[sv, xv])) : Sem Next).run X.P w = _
          rw [append_args (P := X.P) h0 h1]
          exact run_v (P := X.P) q1
        split at e
        · rename_i by'
          split at e
          · rename_i hu1
            split at e
            · rename_i hone
              rw [rel_str hx] at fin ⊢
              refine fin _ (fun _ => ?_) e
              rw [hone]
              exact bytes_src by' hd
            · simp at e
          · simp at e
        · split at e
          · exact fin _ (fun hw => elemsOf_sound hm hx (by assumption) hw hd) e
          · simp at e
      · simp at e
    all_goals first | (rename_i h; simp at h; done) | (simp at e; done) | skip
    all_goals rename_i h1 h2; simp_all
  | min =>
    unfold Ev.builtin at e
    split at e
    · rename_i h; simp at h
    · rename_i h; simp at h
    · rename_i k p k' q hbb
      obtain ⟨sv, ys, hxs, hs, hys⟩ := hargs.head
      obtain ⟨xv, zs, rfl, hx, hzs⟩ := hys.head
      have := hzs.nil_left
      subst this
      rw [args2 hxs, rel_int hs, rel_int hx]
      simp only [Option.some.injEq] at e; subst e
      refine post_same hm (.p (.int k _)) (run_v ?_)
      simp [Builtin.min_, Builtin.min2]
    all_goals first | (rename_i h; simp at h; done) | (simp at e; done) | skip
    all_goals rename_i h1 h2; simp_all
  | max =>
    unfold Ev.builtin at e
    split at e
    · rename_i h; simp at h
    · rename_i h; simp at h
    · rename_i h; simp at h
    · rename_i k p k' q hbb
      obtain ⟨sv, ys, hxs, hs, hys⟩ := hargs.head
      obtain ⟨xv, zs, rfl, hx, hzs⟩ := hys.head
      have := hzs.nil_left
      subst this
      rw [args2 hxs, rel_int hs, rel_int hx]
      simp only [Option.some.injEq] at e; subst e
      refine post_same hm (.p (.int k _)) (run_v ?_)
      simp [Builtin.max_, Builtin.max2]
    · rename_i k p k' q k'' q' hbb
      obtain ⟨sv, ys, hxs, hs, hys⟩ := hargs.head
      obtain ⟨xv, zs, rfl, hx, hzs⟩ := hys.head
      obtain ⟨yv, us, rfl, hy, hus⟩ := hzs.head
      have := hus.nil_left
      subst this
      rw [args3 hxs, rel_int hs, rel_int hx, rel_int hy]
      simp only [Option.some.injEq] at e; subst e
      refine post_same hm (.p (.int k _)) (run_v ?_)
      simp [Builtin.max_, Builtin.max2]
    all_goals first | (rename_i h; simp at h; done) | (simp at e; done) | skip
  | _ => simp [Ev.builtin] at e
theorem run_enter {P : Program} {f : FuncId} (h : callOk P f = true) (args : Array Value) : (callFunc f args).run P w = .ok (.enter f args) w := by
  unfold callOk at h
  split at h
  · rename_i fn hf
    simp only [Bool.and_eq_true, Bool.not_eq_true'] at h
    have hb : fn.body.isNone = false := by
      cases hb : fn.body with
      | none => simp [hb] at h
      | some c => rfl
    simp only [callFunc, Sem.run_bind, run_program, Result.andThen_ok, hf, h.2, hb, Bool.false_eq_true, if_false, Sem.run_pure]
  · simp at h
theorem op_callV {c : Call} {f : Operand} (hm : MemOk X.P I w φ m) (hold : ∀ b o, I b o → b < w.heap.size) (ht : TmOk X I w φ t a) (hg : GlobOk X I w) (hop : o.op = .call c) (hb : c.callee = .value f) (e : evOp X m t o = some r) :
    OpPost X I w φ m r ((execOp a.eval o).run X.P w) := by
  simp only [evOp, hop, hb] at e
  split at e
  · rename_i g first cap hcal
    split at e
    · rename_i az has
      split at e
      · rename_i hok
        simp only [Option.some.injEq] at e; subst e
        have hf := opd_rel ht hg f
        have hfv : opd X t f = .fn g first cap := by
          unfold calleeOf at hcal
          split at hcal
          · rename_i h; simp only [Option.some.injEq, Prod.mk.injEq] at hcal; obtain ⟨rfl, rfl, rfl⟩ := hcal; exact h
          · simp at hcal
        rw [hfv] at hf
        obtain ⟨xs, ys, he, l1, r1, l2, r2⟩ := rel_fn hf
        have hargs := opds_rel ht hg c.args.toList
        have hrun : (execOp a.eval o).run X.P w = .ok (.enter g ⟨xs ++ c.args.toList.map a.eval ++ ys⟩) w := by
          simp only [execOp, hop, resolve, hb, he, Deferred.ofValue, Sem.run_bind, Sem.run_pure, Result.andThen_ok, invoke]
          rw [run_enter hok]
          congr 2
          apply Array.ext'
          simp
        have mk : ∀ I' : Imm, (∀ b o, I b o → I' b o) → (∀ v ∈ mapOpd X t c.args.toList, Cov m φ I' v) → All2 (Rel X.P I' w φ) (first ++ az ++ cap) (xs ++ c.args.toList.map a.eval ++ ys) := by
          intro I' hI hc
          have h1 : All2 (Rel X.P I' w φ) first xs := ⟨l1, fun i v x p q => .p ((r1 i v x p q).mono hI (fun _ _ _ _ h => h))⟩
          have h2 := snaps_sound _ az _ hm hI hargs hc has
          have h3 : All2 (Rel X.P I' w φ) cap ys := ⟨l2, fun i v x p q => (r2 i v x p q).mono hI (fun _ _ _ _ h => h) (fun _ _ h => h)⟩
          exact (h1.append h2).append h3
        refine ⟨hok, _, hrun, ?_, ?_⟩
        · split
          · rfl
          · obtain ⟨I', m1, e1, c1, s1⟩ := frzs_sound _ _ I m hm hargs
            exact s1.1
        · split
          · rename_i hsc
            right
            refine ⟨hsc.1, hsc.2, rfl, mk (allI w) (fun b o h => hold b o h) (fun v hv => ?_)⟩
            have cov : ∀ u, Cov1 m φ (allI w) u := fun u r ty off len _ row l _ _ hl o _ _ => hm.size r l hl
            cases v <;> first | exact cov _ | exact fun u _ => cov u
          · left
            obtain ⟨I', m1, e1, c1, s1⟩ := frzs_sound _ _ I m hm hargs
            exact ⟨I', e1, m1, mk I' e1.imm c1⟩
      · simp at e
    · simp at e
  · simp at e
theorem op_defer {c : Call} (ht : TmOk X I w φ t a) (hg : GlobOk X I w) (hop : o.op = .defer c) (e : evOp X m t o = some r) :
    OpPost X I w φ m r ((execOp a.eval o).run X.P w) := by
  simp only [evOp, hop] at e
  split at e
  · rename_i f hb
    split at e
    · rename_i g cap hcal hnil
      simp only [Option.some.injEq] at e; subst e
      have hf := opd_rel ht hg f
      have hfv : opd X t f = .fn g [] cap := by
        unfold calleeOf at hcal
        split at hcal
        · rename_i h; simp only [Option.some.injEq, Prod.mk.injEq] at hcal; obtain ⟨rfl, rfl, rfl⟩ := hcal; exact h
        · simp at hcal
      rw [hfv] at hf
      obtain ⟨xs, ys, he, l1, r1, l2, r2⟩ := rel_fn hf
      have hxs : xs = [] := by cases xs with
        | nil => rfl
        | cons => simp at l1
      subst hxs
      refine ⟨ys, ?_, l2, r2⟩
      have hargs : c.args = #[] := by apply Array.ext'; simpa using hnil
      simp [execOp, hop, resolve, hb, he, Deferred.ofValue, hargs]
    · simp at e
  · simp at e
theorem op_panic {x : Operand} (ht : TmOk X I w φ t a) (hg : GlobOk X I w) (hop : o.op = .panic x) (e : evOp X m t o = some r) :
    OpPost X I w φ m r ((execOp a.eval o).run X.P w) := by
  simp only [evOp, hop] at e
  have hx := opd_rel ht hg x
  split at e
  · rename_i ty v h0
    simp only [Option.some.injEq] at e; subst e
    rw [h0] at hx
    obtain ⟨y, he, _⟩ := rel_ifc hx
    refine ⟨.iface ty y, ?_, he ▸ hx⟩
    simp [execOp, hop, he, Instr.panic]
  · simp at e
end
end Go.Ev
namespace Go.Ev
section
variable {X : Env} {I : Imm} {w : World} {φ : Phi} {m : Mem} {t : Tm} {a : Act} {o : Oper} {r : OpR}
theorem evOp_sound (hm : MemOk X.P I w φ m) (hold : ∀ b o, I b o → b < w.heap.size) (ht : TmOk X I w φ t a) (hg : GlobOk X I w) (e : evOp X m t o = some r) : OpPost X I w φ m r ((execOp a.eval o).run X.P w) := by
  cases hop : o.op with
  | move x => exact op_move hm ht hg hop e
  | assign x => exact op_assign hm ht hg hop e
  | pick c x y => exact op_pick hm ht hg hop e
  | alloc ty => exact op_alloc hm hold hop e
  | box ty x => exact op_box hm hold ht hg hop e
  | build ty ps => exact op_build hm ht hg hop e
  | buildSlice ty n ps => exact op_buildSlice hm hold ht hg hop e
  | load ty x => exact op_load hm ht hg hop e
  | store ty x y => exact op_store hm ht hg hop e
  | nilCheck x => exact op_nilCheck hm ht hg hop e
  | binOp op ty x y b => exact op_binOp hm ht hg hop e
  | unOp op ty x => exact op_unOp hm ht hg hop e
  | convert s d x => exact op_convert hm ht hg hop e
  | makeInterface ty x => exact op_makeInterface hm ht hg hop e
  | makeFunc f x c => exact op_makeFunc hm ht hg hop e
  | makeSlice ty l c => exact op_makeSlice hm hold ht hg hop e
  | slice ty x lo hi mx => exact op_slice hm ht hg hop e
  | fieldAddr ty x f => exact op_fieldAddr hm ht hg hop e
  | field ty x f => exact op_field hm ht hg hop e
  | indexAddr ty x i => exact op_indexAddr hm ht hg hop e
  | index ty x i => exact op_index hm ht hg hop e
  | extract x i => exact op_extract hm ht hg hop e
  | typeAssert x xt ty ok => exact op_typeAssert hm ht hg hop e
  | call c =>
    cases hb : c.callee with
    | builtin b =>
      have e' := e
      simp only [evOp, hop, hb] at e'
      exact op_builtin hm hold ht hg hop hb e'
    | value f => exact op_callV hm hold ht hg hop hb e
    | invoke x n => simp [evOp, hop, hb] at e
  | defer c => exact op_defer ht hg hop e
  | panic x => exact op_panic ht hg hop e
  | _ => simp [evOp, hop] at e
end
end Go.Ev
namespace Go.Ev
section
variable {P : Program} {I : Imm} {w : World} {φ : Phi} {m : Mem}
def ownB : Value → Option Nat
  | .slice (some a) _ _ => some a.block
  | _ => none
def OwnOk (P : Program) (I : Imm) (w : World) (es : List V) (ty : TypeId) (x : Value) : Prop :=
  (x = .slice none 0 0 ∧ es = []) ∨
  ∃ l : Loc, x = .slice (some ⟨l.b, l.base, none⟩) es.length l.cap ∧ RowOk P I w (fun _ => none) { g := 1, ty, arr := true, fz := false, es } (some l)
inductive RelR1 (P : Program) (I : Imm) (w : World) (φ : Phi) : (Nat → Prop) → V → Value → (Nat → Prop) → Prop
  | own {U : Nat → Prop} {es : List V} {ty : TypeId} {x : Value} : OwnOk P I w es ty x → (∀ b, ownB x = some b → ¬ U b) → RelR1 P I w φ U (.own es ty) x (fun b => U b ∨ ownB x = some b)
  | rel {U : Nat → Prop} {v : V} {x : Value} : Rel P I w φ v x → v.transit = false → RelR1 P I w φ U v x U
inductive RelRL (P : Program) (I : Imm) (w : World) (φ : Phi) : (Nat → Prop) → List V → List Value → (Nat → Prop) → Prop
  | nil {U : Nat → Prop} : RelRL P I w φ U [] [] U
  | cons {U U' U'' : Nat → Prop} {v : V} {x : Value} {vs : List V} {xs : List Value} : RelR1 P I w φ U v x U' → RelRL P I w φ U' vs xs U'' → RelRL P I w φ U (v :: vs) (x :: xs) U''
inductive RelR2 (P : Program) (I : Imm) (w : World) (φ : Phi) : (Nat → Prop) → V → Value → (Nat → Prop) → Prop
  | agg {U U' : Nat → Prop} {cs : List V} {xs : List Value} : RelRL P I w φ U cs xs U' → (∀ x ∈ xs, x.oneCell' = true) → RelR2 P I w φ U (.agg cs) (.agg ⟨xs⟩) U'
  | one {U U' : Nat → Prop} {v : V} {x : Value} : v.isAgg = false → RelR1 P I w φ U v x U' → RelR2 P I w φ U v x U'
inductive RelR2L (P : Program) (I : Imm) (w : World) (φ : Phi) : (Nat → Prop) → List V → List Value → (Nat → Prop) → Prop
  | nil {U : Nat → Prop} : RelR2L P I w φ U [] [] U
  | cons {U U' U'' : Nat → Prop} {v : V} {x : Value} {vs : List V} {xs : List Value} : RelR2 P I w φ U v x U' → RelR2L P I w φ U' vs xs U'' → RelR2L P I w φ U (v :: vs) (x :: xs) U''
inductive RelR (P : Program) (I : Imm) (w : World) (φ : Phi) : (Nat → Prop) → V → Value → (Nat → Prop) → Prop
  | tup {U U' : Nat → Prop} {vs : List V} {xs : List Value} : RelR2L P I w φ U vs xs U' → RelR P I w φ U (.tup vs) (.tuple ⟨xs⟩) U'
  | one {U U' : Nat → Prop} {v : V} {x : Value} : (∀ vs, v ≠ .tup vs) → RelR2 P I w φ U v x U' → RelR P I w φ U v x U'
structure Taken (P : Program) (I0 : Imm) (w0 : World) (φ0 : Phi) (I : Imm) (w : World) (φ : Phi) (m : Mem) (n : Nat) (U : Nat → Prop) : Prop where
  mem : MemOk P I w φ m
  ext : Ext I0 w0 φ0 I w φ
  used : ∀ r l, φ r = some (some l) → U l.b
  old : ∀ b, b < w0.heap.size → U b
  len : m.out.length = n
theorem Rel.phi {φ' : Phi} (hφ : ∀ r l, φ r = some l → φ' r = some l) {v : V} {x : Value} (h : Rel P I w φ v x) : Rel P I w φ' v x := h.mono (fun _ _ h => h) (fun _ _ _ _ h => h) hφ
theorem Taken.phi_ext {I0 : Imm} {w0 : World} {φ0 φ' : Phi} (h : Ext I0 w0 φ0 I w φ) (hφ : ∀ r l, φ r = some l → φ' r = some l) (hf : ∀ r l, φ' r = some (some l) → φ r = some (some l) ∨ w0.heap.size ≤ l.b) : Ext I0 w0 φ0 I w φ' := by
  refine ⟨h.imm, h.cell, fun r l k => hφ _ _ (h.phi r l k), h.hsize, h.os, h.tape, h.output, h.block, ?_, h.immNew, h.plain, h.old⟩
  intro r l hl
  rcases hf r l hl with h' | h'
  · exact h.fresh r l h'
  · exact .inr h'
theorem take_own {I0 : Imm} {w0 : World} {φ0 : Phi} {n : Nat} {U : Nat → Prop} (h : Taken P I0 w0 φ0 I w φ m n U) {es : List V} {ty : TypeId} {x : Value} (ho : OwnOk P I w es ty x) (hx : ∀ b, ownB x = some b → ¬ U b) (dst i : Nat) :
    ∃ φ', Taken P I0 w0 φ0 I w φ' (m.new dst i ty true es) n (fun b => U b ∨ ownB x = some b) ∧ (∀ r l, φ r = some l → φ' r = some l) ∧ Rel P I w φ' (.rs (m.newRef dst i) ty 0 es.length) x := by
  rcases ho with ⟨rfl, rfl⟩ | ⟨l, rfl, hrow⟩
  · have hm := step_newNilAt (P := P) h.mem m.out.length dst i (Mem.rows_own m) ty
    obtain ⟨m1, e1⟩ := hm
    refine ⟨φ.put (m.newRef dst i) none, ⟨by rw [Mem.new_eq]; exact m1, h.ext.trans e1, ?_, fun b hb => .inl (h.old b hb), by simpa using h.len⟩, e1.phi, .rsNil (Phi.put_same _ _ _)⟩
    intro r l hl
    unfold Phi.put at hl
    split at hl
    · simp at hl
    · exact .inl (h.used r l hl)
  · have hnone := h.mem.newRef_none dst i
    have hφ := Phi.put_mono (φ := φ) hnone (some l)
    have hU : ¬ U l.b := hx l.b rfl
    have hne : ∀ r l0, φ r = some (some l0) → l0.b ≠ l.b := fun r l0 hl e => hU (e ▸ h.used r l0 hl)
    obtain ⟨q1, q2, q3, ⟨cs, t, q4, q4'⟩, q5, q6, q7, q8⟩ := hrow
    have hlt : l.b < w.heap.size := by
      rcases Nat.lt_or_ge l.b w.heap.size with h | h
      · exact h
      · rw [Array.getElem?_eq_none h] at q4; simp at q4
    have hm : MemOk P I w (φ.put (m.newRef dst i) (some l)) (m.new dst i ty true es) := by
      rw [Mem.new_eq]
      refine h.mem.replace (rows := m.own) (l' := some l) (Mem.rows_own m) (by simp) (by simp) hφ ?_ (Phi.put_same _ _ _) ?_ ?_ ?_ (Nat.le_refl _) ?_
      · intro r hr
        unfold Phi.put at hr
        split at hr
        · rename_i e; exact .inr e
        · exact .inl hr
      · refine ⟨q1, q2, q3, ⟨cs, t, q4, q4'⟩, q5, ?_, q7, q8⟩
        intro j e c v hj hc
        obtain ⟨x, x1, x2, x3⟩ := q6 j e c v hj hc
        exact ⟨x, x1, x2, by simpa using x3⟩
      · intro r row l0 hr hg hn hl hok
        exact hok.keep (fun _ _ h => h) (fun _ _ _ _ h => h) (Phi.upto_mono r.d hφ) (fun _ _ => rfl) (fun _ _ _ _ h => h)
      · intro r l0 l1 hn hl e
        simp only [Option.some.injEq] at e; subst e
        exact hne r l0 hl
      · intro l0 e
        simp only [Option.some.injEq] at e; subst e
        exact hlt
    refine ⟨φ.put (m.newRef dst i) (some l), ⟨hm, ?_, ?_, fun b hb => .inl (h.old b hb), by simpa using h.len⟩, hφ, ?_⟩
    · refine Taken.phi_ext h.ext hφ (fun r l0 hl => ?_)
      unfold Phi.put at hl
      split at hl
      · simp only [Option.some.injEq] at hl; subst hl
        right
        rcases Nat.lt_or_ge l.b w0.heap.size with h' | h'
        · exact absurd (h.old _ h') hU
        · exact h'
      · exact .inl hl
    · intro r l0 hl
      unfold Phi.put at hl
      split at hl
      · simp only [Option.some.injEq] at hl; subst hl; exact .inr rfl
      · exact .inl (h.used r l0 hl)
    · have := Rel.rs (P := P) (I := I) (w := w) (φ := φ.put (m.newRef dst i) (some l)) (r := m.newRef dst i) (ty := ty) (off := 0) (len := es.length) (l := l) (Phi.put_same _ _ _) (by simpa using q1) q2
      simpa using this
theorem RelR1.phi {φ' : Phi} (hφ : ∀ r l, φ r = some l → φ' r = some l) {U U' : Nat → Prop} {v : V} {x : Value} (h : RelR1 P I w φ U v x U') : RelR1 P I w φ' U v x U' := by
  cases h with
  | own a b => exact .own a b
  | rel a b => exact .rel (a.phi hφ) b
theorem RelRL.phi {φ' : Phi} (hφ : ∀ r l, φ r = some l → φ' r = some l) {U U' : Nat → Prop} {v : List V} {x : List Value} (h : RelRL P I w φ U v x U') : RelRL P I w φ' U v x U' := by
  induction h with
  | nil => exact .nil
  | cons a _ ih => exact .cons (a.phi hφ) ih
theorem RelR2.phi {φ' : Phi} (hφ : ∀ r l, φ r = some l → φ' r = some l) {U U' : Nat → Prop} {v : V} {x : Value} (h : RelR2 P I w φ U v x U') : RelR2 P I w φ' U v x U' := by
  cases h with
  | agg a b => exact .agg (a.phi hφ) b
  | one a b => exact .one a (b.phi hφ)
theorem RelR2L.phi {φ' : Phi} (hφ : ∀ r l, φ r = some l → φ' r = some l) {U U' : Nat → Prop} {v : List V} {x : List Value} (h : RelR2L P I w φ U v x U') : RelR2L P I w φ' U v x U' := by
  induction h with
  | nil => exact .nil
  | cons a _ ih => exact .cons (a.phi hφ) ih
theorem RelR.phi {φ' : Phi} (hφ : ∀ r l, φ r = some l → φ' r = some l) {U U' : Nat → Prop} {v : V} {x : Value} (h : RelR P I w φ U v x U') : RelR P I w φ' U v x U' := by
  cases h with
  | tup a => exact .tup (a.phi hφ)
  | one a b => exact .one a (b.phi hφ)
theorem inst1_sound {I0 : Imm} {w0 : World} {φ0 : Phi} {n : Nat} {U U' : Nat → Prop} (h : Taken P I0 w0 φ0 I w φ m n U) {v : V} {x : Value} (hr : RelR1 P I w φ U v x U') (dst i : Nat) :
    ∃ φ', Taken P I0 w0 φ0 I w φ' (inst1 m dst i v).1 n U' ∧ (∀ r l, φ r = some l → φ' r = some l) ∧ Rel P I w φ' (inst1 m dst i v).2 x ∧ ((inst1 m dst i v).2.isAgg = true → v.isAgg = true) := by
  cases hr with
  | own a b =>
    obtain ⟨φ', t1, t2, t3⟩ := take_own h a b dst i
    exact ⟨φ', t1, t2, t3, fun h => by simp [inst1, V.isAgg] at h⟩
  | rel a b =>
    have e : inst1 m dst i v = (m, v) := by cases v <;> first | rfl | simp [V.transit] at b
    rw [e]
    exact ⟨φ, h, fun _ _ h => h, a, fun h => h⟩
theorem instL_sound {I0 : Imm} {w0 : World} {φ0 : Phi} {n : Nat} (dst : Nat) : ∀ (vs : List V) (xs : List Value) (i : Nat) (φ : Phi) (m : Mem) (U U' : Nat → Prop), Taken P I0 w0 φ0 I w φ m n U → RelRL P I w φ U vs xs U' →
    ∃ φ', Taken P I0 w0 φ0 I w φ' (instL m dst i vs).1 n U' ∧ (∀ r l, φ r = some l → φ' r = some l) ∧ All2 (Rel P I w φ') (instL m dst i vs).2 xs
  | [], xs, i, φ, m, U, U', h, hr => by
    cases hr
    exact ⟨φ, h, fun _ _ h => h, .nil⟩
  | v :: vs, xs, i, φ, m, U, U', h, hr => by
    cases hr with
    | cons a b =>
      obtain ⟨φ1, t1, k1, r1, _⟩ := inst1_sound h a dst i
      obtain ⟨φ2, t2, k2, r2⟩ := instL_sound dst vs _ (i + 1) φ1 _ _ U' t1 (b.phi k1)
      exact ⟨φ2, t2, fun r l h => k2 _ _ (k1 _ _ h), .cons (r1.phi k2) r2⟩
theorem relRL_plain {U U' : Nat → Prop} : ∀ {vs : List V} {xs : List Value}, RelRL P I w φ U vs xs U' → vs.any V.transit = false → All2 (Rel P I w φ) vs xs ∧ U' = U
  | [], _, h, _ => by cases h; exact ⟨.nil, rfl⟩
  | v :: vs, _, h, hn => by
    cases h with
    | cons a b =>
      simp only [List.any_cons, Bool.or_eq_false_iff] at hn
      cases a with
      | own => simp [V.transit] at hn
      | rel a _ =>
        obtain ⟨q1, q2⟩ := relRL_plain b hn.2
        exact ⟨.cons a q1, q2⟩
theorem inst2_sound {I0 : Imm} {w0 : World} {φ0 : Phi} {n : Nat} {U U' : Nat → Prop} (h : Taken P I0 w0 φ0 I w φ m n U) {v : V} {x : Value} (hr : RelR2 P I w φ U v x U') (dst i : Nat) :
    ∃ φ', Taken P I0 w0 φ0 I w φ' (inst2 m dst i v).1 n U' ∧ (∀ r l, φ r = some l → φ' r = some l) ∧ Rel P I w φ' (inst2 m dst i v).2 x := by
  cases hr with
  | agg a b =>
    rename_i cs xs
    simp only [inst2]
    split
    · obtain ⟨φ', t1, k1, r1⟩ := instL_sound dst cs xs i φ m U U' h a
      exact ⟨φ', t1, k1, .agg r1.1 r1.2 b⟩
    · rename_i hn
      obtain ⟨q1, q2⟩ := relRL_plain a (by simpa using hn)
      rw [q2]
      exact ⟨φ, h, fun _ _ h => h, .agg q1.1 q1.2 b⟩
  | one a b =>
    have e : inst2 m dst i v = inst1 m dst i v := by cases v <;> first | rfl | simp [V.isAgg] at a
    rw [e]
    obtain ⟨φ', t1, k1, r1, _⟩ := inst1_sound h b dst i
    exact ⟨φ', t1, k1, r1⟩
theorem inst2s_sound {I0 : Imm} {w0 : World} {φ0 : Phi} {n : Nat} (dst : Nat) : ∀ (vs : List V) (xs : List Value) (i : Nat) (φ : Phi) (m : Mem) (U U' : Nat → Prop), Taken P I0 w0 φ0 I w φ m n U → RelR2L P I w φ U vs xs U' →
    ∃ φ', Taken P I0 w0 φ0 I w φ' (inst2s m dst i vs).1 n U' ∧ (∀ r l, φ r = some l → φ' r = some l) ∧ All2 (Rel P I w φ') (inst2s m dst i vs).2 xs
  | [], xs, i, φ, m, U, U', h, hr => by
    cases hr
    exact ⟨φ, h, fun _ _ h => h, .nil⟩
  | v :: vs, xs, i, φ, m, U, U', h, hr => by
    cases hr with
    | cons a b =>
      obtain ⟨φ1, t1, k1, r1⟩ := inst2_sound h a dst i
      obtain ⟨φ2, t2, k2, r2⟩ := inst2s_sound dst vs _ (i + 1000) φ1 _ _ U' t1 (b.phi k1)
      exact ⟨φ2, t2, fun r l h => k2 _ _ (k1 _ _ h), .cons (r1.phi k2) r2⟩
theorem install_sound {I0 : Imm} {w0 : World} {φ0 : Phi} {n : Nat} {U U' : Nat → Prop} (h : Taken P I0 w0 φ0 I w φ m n U) {v : V} {x : Value} (hr : RelR P I w φ U v x U') (dst : Nat) :
    ∃ φ', Taken P I0 w0 φ0 I w φ' (install m dst v).1 n U' ∧ Rel P I w φ' (install m dst v).2 x := by
  cases hr with
  | tup a =>
    rename_i vs xs
    obtain ⟨φ', t1, _, r1⟩ := inst2s_sound dst vs xs 1000 φ m U U' h a
    exact ⟨φ', t1, .tup r1.1 r1.2⟩
  | one a b =>
    have e : install m dst v = inst2 m dst 1000 v := by cases v <;> first | rfl | exact absurd rfl (a _)
    rw [e]
    obtain ⟨φ', t1, _, r1⟩ := inst2_sound h b dst 1000
    exact ⟨φ', t1, r1⟩
def OutOk (P : Program) (I : Imm) (w : World) (φ : Phi) : List Rows → Prop
  | [] => ∀ r, φ r = none
  | own :: outs => MemOk P I w φ ⟨own, outs⟩
def usedB (w : World) (φ : Phi) (b : Nat) : Prop := b < w.heap.size ∨ ∃ r l, φ r = some (some l) ∧ l.b = b
def FnPost (P : Program) (I : Imm) (w : World) (φ : Phi) (out : List Rows) : Res × List Rows → Ending → World → Prop
  | (.ret v, out'), .returned x, w' => ∃ I' φ' U', Ext I w φ I' w' φ' ∧ OutOk P I' w' φ' out' ∧ out'.length = out.length ∧ RelR P I' w' φ' (usedB w φ') v x U'
  | (.panic v, out'), .panicked chain, w' => ∃ I' φ' x, chain = [{ v := x, recovered := false }] ∧ Ext I w φ I' w' φ' ∧ OutOk P I' w' φ' out' ∧ out'.length = out.length ∧ Rel P I' w' φ' v x
  | _, _, _ => False
theorem enter_mem {out : List Rows} (h : OutOk P I w φ out) : MemOk P I w φ ⟨.nil, out⟩ ∧ ∀ r, φ r ≠ none → r.d < out.length := by
  have hrows : ∀ d, d ≠ out.length → (⟨Trie.nil, out⟩ : Mem).rows d = outRows out d := fun d hd => by simp [Mem.rows, hd]
  have hnew : ∀ r row, (⟨Trie.nil, out⟩ : Mem).row r = some row → r.g ≠ 0 → r.d ≠ out.length := by
    intro r row hr hg e
    obtain ⟨rows, h1, h2, h3⟩ := (Mem.row_eq _ _ _).1 hr
    rw [e] at h1
    have : rows = .nil := by simp [Mem.rows] at h1; exact h1.symm
    subst this
    rw [Rows.get_nil] at h2
    subst h2
    exact hg h3.symm
  cases out with
  | nil =>
    have hn : ∀ r, φ r = none := h
    refine ⟨⟨?_, fun r hr => absurd (hn r) hr, fun r hr => absurd (hn r) hr, fun r r' l _ hl => by rw [hn r] at hl; simp at hl, fun r l hl => by rw [hn r] at hl; simp at hl⟩, fun r hr => absurd (hn r) hr⟩
    intro r row hr hg
    have hd := hnew r row hr hg
    obtain ⟨rows, h1, _⟩ := (Mem.row_eq _ _ _).1 hr
    rw [hrows _ hd] at h1
    simp [outRows] at h1
  | cons own outs =>
    have hm : MemOk P I w φ ⟨own, outs⟩ := h
    have heq : ∀ d, d ≠ (own :: outs).length → (⟨Trie.nil, own :: outs⟩ : Mem).rows d = (⟨own, outs⟩ : Mem).rows d := by
      intro d hd
      rw [hrows d hd, outRows]
      simp [Mem.rows]
    have hroweq : ∀ r : Ref, r.d ≠ (own :: outs).length → (⟨Trie.nil, own :: outs⟩ : Mem).row r = (⟨own, outs⟩ : Mem).row r := by
      intro r hd; unfold Mem.row; rw [heq _ hd]
    have hlt : ∀ r, φ r ≠ none → r.d < (own :: outs).length := by
      intro r hr
      obtain ⟨rows, h1, _⟩ := hm.gens r hr
      have := Mem.rows_le h1
      simp at this ⊢; omega
    refine ⟨⟨?_, hm.zero, ?_, hm.dis, hm.size⟩, hlt⟩
    · intro r row hr hg
      have hd := hnew r row hr hg
      rw [hroweq r hd] at hr
      exact hm.live r row hr hg
    · intro r hr
      obtain ⟨rows, h1, h2⟩ := hm.gens r hr
      exact ⟨rows, by rw [heq _ (by have := hlt r hr; omega)]; exact h1, h2⟩
def Phi.below (φ : Phi) (d : Nat) : Phi := fun r => if r.d < d then φ r else none
theorem Phi.below_le {φ : Phi} {d : Nat} : ∀ (r : Ref) (l : Option Loc), φ.below d r = some l → φ r = some l := by
  intro r l h
  unfold Phi.below at h
  split at h
  · exact h
  · simp at h
theorem leave_mem (h : MemOk P I w φ m) : OutOk P I w (φ.below m.out.length) m.out := by
  obtain ⟨own0, out⟩ := m
  cases out with
  | nil => intro r; unfold Phi.below; simp
  | cons own outs =>
    have heq : ∀ d, d ≠ (own :: outs).length → (⟨own0, own :: outs⟩ : Mem).rows d = (⟨own, outs⟩ : Mem).rows d := by
      intro d hd
      simp only [Mem.rows, if_neg hd]
      rw [outRows]
    have hroweq : ∀ r : Ref, r.d ≠ (own :: outs).length → (⟨own0, own :: outs⟩ : Mem).row r = (⟨own, outs⟩ : Mem).row r := by
      intro r hd; unfold Mem.row; rw [heq _ hd]
    have hb : ∀ r l, φ.below (own :: outs).length r = some l → φ r = some l ∧ r.d < (own :: outs).length := by
      intro r l hl
      unfold Phi.below at hl
      split at hl
      · rename_i hd; exact ⟨hl, hd⟩
      · simp at hl
    have hb' : ∀ r, φ.below (own :: outs).length r ≠ none → φ r ≠ none ∧ r.d < (own :: outs).length := by
      intro r hr
      unfold Phi.below at hr
      split at hr
      · rename_i hd; exact ⟨hr, hd⟩
      · simp at hr
    show MemOk P I w (φ.below (own :: outs).length) ⟨own, outs⟩
    refine ⟨?_, fun r hr => h.zero r (hb' r hr).1, ?_, ?_, fun r l hl => h.size r l (hb r _ hl).1⟩
    · intro r row hr hg
      have hd : r.d < (own :: outs).length := by
        obtain ⟨rows, h1, _⟩ := (Mem.row_eq _ _ _).1 hr
        have := Mem.rows_le h1
        simp at this ⊢; omega
      obtain ⟨l, hl, hok⟩ := h.live r row (by rw [hroweq r (by omega)]; exact hr) hg
      refine ⟨l, by unfold Phi.below; rw [if_pos hd]; exact hl, ?_⟩
      have e : (φ.below (own :: outs).length).upto r.d = φ.upto r.d := by
        funext r'
        unfold Phi.upto Phi.below
        split
        · rw [if_pos (by omega)]
        · rfl
      rw [e]; exact hok
    · intro r hr
      obtain ⟨h1, hd⟩ := hb' r hr
      obtain ⟨rows, h2, h3⟩ := h.gens r h1
      exact ⟨rows, by rw [← heq _ (by omega)]; exact h2, h3⟩
    · intro r r' l l' hl hl' hne
      exact h.dis r r' l l' (hb _ _ hl).1 (hb _ _ hl').1 hne
end
end Go.Ev
namespace Go.Ev
section
variable {P : Program} {I : Imm} {w : World} {φ : Phi} {m : Mem}
theorem all2_of {R : V → Value → Prop} : ∀ (vs : List V), (∀ v ∈ vs, ∃ x, R v x) → ∃ xs, All2 R vs xs
  | [], _ => ⟨[], .nil⟩
  | v :: vs, h => by
    obtain ⟨x, hx⟩ := h v (by simp)
    obtain ⟨xs, hxs⟩ := all2_of vs fun u hu => h u (by simp [hu])
    exact ⟨x :: xs, .cons hx hxs⟩
theorem nodup_flatMap {α β : Type} {f : α → List β} : ∀ {l : List α} {a b : α} {x : β}, (l.flatMap f).Nodup → a ∈ l → b ∈ l → x ∈ f a → x ∈ f b → a = b
  | [], a, b, x, _, ha, _, _, _ => by simp at ha
  | c :: l, a, b, x, h, ha, hb, xa, xb => by
    rw [List.flatMap_cons, List.nodup_append] at h
    obtain ⟨_, h2, h3⟩ := h
    rcases List.mem_cons.1 ha with ea | ha'
    · rcases List.mem_cons.1 hb with eb | hb'
      · rw [ea, eb]
      · rw [ea] at xa
        exact absurd rfl (h3 x xa x (List.mem_flatMap.2 ⟨b, hb', xb⟩))
    · rcases List.mem_cons.1 hb with eb | hb'
      · rw [eb] at xb
        exact absurd rfl (h3 x xb x (List.mem_flatMap.2 ⟨a, ha', xa⟩))
      · exact nodup_flatMap h2 ha' hb' xa xb
theorem frz1_keeps {r : Ref} {v : V} (h : ∀ r' ty off len, v = .rs r' ty off len → ¬ (r.d = r'.d ∧ r.s = r'.s ∧ r.i = r'.i)) : (frz1 m v).row r = m.row r := by
  cases v with
  | rs r' ty off len =>
    simp only [frz1]
    split
    · split
      · rw [Mem.row_set_ne (h r' ty off len rfl)]
      · rfl
    · rfl
  | _ => rfl
theorem frzL_keeps {r : Ref} : ∀ (vs : List V) (m : Mem), (∀ v ∈ vs, ∀ r' ty off len, v = .rs r' ty off len → ¬ (r.d = r'.d ∧ r.s = r'.s ∧ r.i = r'.i)) → (frzL m vs).row r = m.row r
  | [], m, _ => rfl
  | v :: vs, m, h => by
    rw [frzL, frzL_keeps vs _ (fun u hu => h u (by simp [hu])), frz1_keeps (h v (by simp))]
theorem outer_rel {n : Nat} {v : V} {x : Value} (hr : Rel P I w φ v x) (hn : m.out.length = n) (h : outer m v = true) : Rel P I w (φ.below n) v x := by
  cases v with
  | ptr r j off =>
    simp only [outer, decide_eq_true_eq] at h
    obtain ⟨l, hl, rfl⟩ := rel_ptr hr
    exact .ptr (by unfold Phi.below; rw [if_pos (by omega)]; exact hl)
  | _ => simp [outer] at h
structure Ends (P : Program) (I' : Imm) (w : World) (φ : Phi) (m m' : Mem) (ok : Bool) (w0 : World) (all : List V) : Prop where
  mem : MemOk P I' w φ m'
  same : SameRows m m'
  cov : ∀ c ∈ all, owned m ok c = false → Cov1 m φ I' c
  keep : ∀ r ty off len, .rs r ty off len ∈ all → owned m ok (.rs r ty off len) = true → m'.row r = m.row r
  fresh : ∀ r l, φ r = some (some l) → r.d = m.out.length → w0.heap.size ≤ l.b
def usedSo (w0 : World) (φ : Phi) (n : Nat) (done : List (Nat × Nat)) (b : Nat) : Prop :=
  usedB w0 (φ.below n) b ∨ ∃ r l, r.d = n ∧ (r.s, r.i) ∈ done ∧ φ r = some (some l) ∧ l.b = b
theorem mv1_sound {I' : Imm} {m' : Mem} {ok : Bool} {w0 : World} {all : List V} (E : Ends P I' w φ m m' ok w0 all) (hm : MemOk P I w φ m) (hI : ∀ b o, I b o → I' b o) {c c' : V} {y : Value} (hc : c ∈ all)
    (hr : Rel P I w φ c y) (h : mv1 m ok c = some c') {done : List (Nat × Nat)} (hnew : ok = true → ∀ n ∈ names1 m c, n ∉ done) {U : Nat → Prop} (hU : ∀ b, U b → usedSo w0 φ m.out.length done b) :
    ∃ U', RelR1 P I' w (φ.below m.out.length) U c' y U' ∧ (∀ b, U' b → usedSo w0 φ m.out.length (done ++ names1 m c) b) ∧ c'.isAgg = false ∧ (∀ vs, c' ≠ .tup vs) := by
  have weak : ∀ b, U b → usedSo w0 φ m.out.length (done ++ names1 m c) b := by
    intro b hb
    rcases hU b hb with h1 | ⟨r, l, h1, h2, h3, h4⟩
    · exact .inl h1
    · exact .inr ⟨r, l, h1, by simp [h2], h3, h4⟩
  have pureCase : ∀ v : V, RelP I' w v y → v.transit = false → v.isAgg = false → (∀ vs, v ≠ .tup vs) → c' = v →
      ∃ U', RelR1 P I' w (φ.below m.out.length) U c' y U' ∧ (∀ b, U' b → usedSo w0 φ m.out.length (done ++ names1 m c) b) ∧ c'.isAgg = false ∧ (∀ vs, c' ≠ .tup vs) := by
    intro v hp ht ha htu e
    subst e
    exact ⟨U, .rel (.p hp) ht, weak, ha, htu⟩
  have toP : ∀ {v : V}, Rel P I w φ v y → RelP I w v y → RelP I' w v y := fun _ hp => hp.mono hI (fun _ _ _ _ h => h)
  cases c with
  | rs r ty off len =>
    simp only [mv1] at h
    split at h
    · rename_i row hrow
      split at h
      · rename_i hown
        simp only [Option.some.injEq] at h; subst h
        have ho := hown
        simp only [owned, hrow, Bool.and_eq_true, Bool.or_eq_true, decide_eq_true_eq, Bool.not_eq_true', beq_iff_eq] at ho
        obtain ⟨⟨⟨⟨⟨hok, hd⟩, hfz⟩, ha⟩, hoff⟩, hle⟩ := ho
        have hlen := cut_length row.es off len hle
        have hrow' : m'.row r = some row := by rw [E.keep r ty off len hc hown, hrow]
        rcases rel_rs hr with ⟨hl, rfl, rfl, rfl⟩ | ⟨l, hl, hcap, hz, rfl⟩ | ⟨l, ad, hl, hoff', rfl, rfl⟩
        · have hnil : cut row.es 0 0 = [] := by simp [cut]
          rw [hnil]
          refine ⟨fun b => U b ∨ ownB (.slice none 0 0) = some b, .own (.inl ⟨rfl, rfl⟩) (fun b hb => by simp [ownB] at hb), ?_, rfl, fun _ h => by simp at h⟩
          intro b hb
          rcases hb with hb | hb
          · exact weak b hb
          · simp [ownB] at hb
        · obtain ⟨l', hl', hrok⟩ := E.mem.live r row hrow' (hm.zero r (by rw [hl]; simp))
          rw [hl] at hl'
          have := Option.some.inj hl'
          subst this
          obtain ⟨h1, h2, h3, ⟨cs, t, h4, h4'⟩, h5, h6, h7, h8⟩ := hrok
          have hrok2 : RowOk P I' w (fun _ => none) { g := 1, ty := row.ty, arr := true, fz := false, es := cut row.es off len } (some ⟨l.b, l.base + off * l.z, l.z, l.cap - off⟩) := by
            refine ⟨by simp only [hlen]; omega, h2, h3, ⟨cs, t, h4, ?_⟩, fun j e hj => h5 _ e (cut_get _ _ _ _ _ hj).1, ?_, ?_, ?_⟩
            · simp only
              have : off * l.z + (l.cap - off) * l.z = l.cap * l.z := by rw [← Nat.add_mul]; congr 1; omega
              omega
            · intro j e c v hj hcv
              obtain ⟨x, x1, x2, x3⟩ := h6 _ e c v (cut_get _ _ _ _ _ hj).1 hcv
              refine ⟨x, ?_, x2, ?_⟩
              · simp only
                rw [show l.base + off * l.z + j * l.z + c = l.base + (off + j) * l.z + c by rw [Nat.add_mul]; omega]
                exact x1
              · rw [if_pos ha] at x3
                simpa using x3
            · intro o hb _
              simp only at hb
              exact h7 o (by omega) (fun hf => by rw [hfz] at hf; simp at hf)
            · simp
          refine ⟨fun b => U b ∨ ownB (.slice (some ⟨l.b, l.base + off * l.z, none⟩) len (l.cap - off)) = some b, .own (.inr ⟨⟨l.b, l.base + off * l.z, l.z, l.cap - off⟩, by rw [hlen], hrok2⟩) ?_, ?_, rfl, fun _ h => by simp at h⟩
          · intro b hb hUb
            simp only [ownB, Option.some.injEq] at hb
            subst hb
            rcases hU _ hUb with (hlt | ⟨r1, l1, hr1, hb1⟩) | ⟨r1, l1, hd1, hn1, hr1, hb1⟩
            · have := E.fresh r l hl hd
              omega
            · have hd1 : r1.d < m.out.length := by
                unfold Phi.below at hr1
                split at hr1
                · assumption
                · simp at hr1
              exact hm.dis r1 r l1 l (Phi.below_le _ _ hr1) hl (fun e => by omega) hb1
            · have hin : (r.s, r.i) ∈ names1 m (.rs r ty off len) := by simp [names1, hd]
              have hnd := hnew hok _ hin
              exact hm.dis r1 r l1 l hr1 hl (fun e => hnd (by rw [← e.2.1, ← e.2.2]; exact hn1)) hb1
          · intro b hb
            rcases hb with hb | hb
            · exact weak b hb
            · simp only [ownB, Option.some.injEq] at hb
              exact .inr ⟨r, l, hd, by simp [names1, hd], hl, hb⟩
        · omega
      · rename_i hown
        split at h
        · rename_i hcond
          simp only [Option.some.injEq] at h; subst h
          have hcov := E.cov _ hc (by simpa using hown)
          have hs : snap1 m (.rs r ty off len) = some (.sl (cut row.es off len)) := by simp only [snap1, hrow, hcond, and_self, if_true]
          have := snap1_sound hm hI hr hcov hs
          have hp : RelP I' w (.sl (cut row.es off len)) y := by cases this with | p h => exact h
          exact pureCase _ hp rfl rfl (fun _ h => by simp at h) rfl
        · simp at h
    · simp at h
  | nilS =>
    simp only [mv1, Option.some.injEq] at h
    rw [rel_nilS hr] at *
    exact pureCase (.sl []) .slNil rfl rfl (fun _ h => by simp at h) h.symm
  | ptr r j off =>
    simp only [mv1] at h
    split at h
    · rename_i ho
      simp only [Option.some.injEq] at h; subst h
      exact ⟨U, .rel ((outer_rel hr rfl ho).mono hI (fun _ _ _ _ h => h) (fun _ _ h => h)) rfl, weak, rfl, fun _ h => by simp at h⟩
    · simp at h
  | fn f first cap =>
    simp only [mv1] at h
    split at h
    · rename_i ho
      simp only [Option.some.injEq] at h; subst h
      obtain ⟨xs, ys, rfl, a1, a2, a3, a4⟩ := rel_fn hr
      refine ⟨U, .rel (.fn a1 (fun i v x p q => (a2 i v x p q).mono hI (fun _ _ _ _ h => h)) a3 (fun i v x p q => ?_)) rfl, weak, rfl, fun _ h => by simp at h⟩
      exact (outer_rel (a4 i v x p q) rfl (List.all_eq_true.1 ho v (List.mem_of_getElem? p))).mono hI (fun _ _ _ _ h => h) (fun _ _ h => h)
    · simp at h
  | agg cs => simp [mv1] at h
  | tup vs => simp [mv1] at h
  | own es ty => cases hr with | p h => cases h
  | undef => simp only [mv1, Option.some.injEq] at h; exact pureCase _ (by rw [rel_undef hr]; exact .undef) rfl rfl (fun _ h => by simp at h) h.symm
  | junk =>
    simp only [mv1, Option.some.injEq] at h
    have hp : RelP I w .junk y := by cases hr with | p h => exact h
    exact pureCase _ (toP hr hp) rfl rfl (fun _ h => by simp at h) h.symm
  | bool b => simp only [mv1, Option.some.injEq] at h; exact pureCase _ (by rw [rel_bool hr]; exact .bool _) rfl rfl (fun _ h => by simp at h) h.symm
  | int k n => simp only [mv1, Option.some.injEq] at h; exact pureCase _ (by rw [rel_int hr]; exact .int _ _) rfl rfl (fun _ h => by simp at h) h.symm
  | str s => simp only [mv1, Option.some.injEq] at h; exact pureCase _ (by rw [rel_str hr]; exact .str _) rfl rfl (fun _ h => by simp at h) h.symm
  | nilI => simp only [mv1, Option.some.injEq] at h; exact pureCase _ (by rw [rel_nilI hr]; exact .nilI) rfl rfl (fun _ h => by simp at h) h.symm
  | nilP => simp only [mv1, Option.some.injEq] at h; exact pureCase _ (by rw [rel_nilP hr]; exact .nilP) rfl rfl (fun _ h => by simp at h) h.symm
  | ifc t v =>
    simp only [mv1, Option.some.injEq] at h
    have hp : RelP I w (.ifc t v) y := by cases hr with | p h => exact h
    exact pureCase _ (toP hr hp) rfl rfl (fun _ h => by simp at h) h.symm
  | nilF =>
    simp only [mv1, Option.some.injEq] at h
    have hp : RelP I w .nilF y := by cases hr with | p h => exact h
    exact pureCase _ (toP hr hp) rfl rfl (fun _ h => by simp at h) h.symm
  | cptr e ty off =>
    simp only [mv1, Option.some.injEq] at h
    have hp : RelP I w (.cptr e ty off) y := by cases hr with | p h => exact h
    exact pureCase _ (toP hr hp) rfl rfl (fun _ h => by simp at h) h.symm
  | sl es =>
    simp only [mv1, Option.some.injEq] at h
    have hp : RelP I w (.sl es) y := by cases hr with | p h => exact h
    exact pureCase _ (toP hr hp) rfl rfl (fun _ h => by simp at h) h.symm
theorem mvL_sound {I' : Imm} {m' : Mem} {ok : Bool} {w0 : World} {all : List V} (E : Ends P I' w φ m m' ok w0 all) (hm : MemOk P I w φ m) (hI : ∀ b o, I b o → I' b o) :
    ∀ (cs cs' : List V) (ys : List Value) (done : List (Nat × Nat)) (U : Nat → Prop), (∀ c ∈ cs, c ∈ all) → All2 (Rel P I w φ) cs ys → mvL m ok cs = some cs' →
      (ok = true → (done ++ cs.flatMap (names1 m)).Nodup) → (∀ b, U b → usedSo w0 φ m.out.length done b) →
      ∃ U', RelRL P I' w (φ.below m.out.length) U cs' ys U' ∧ (∀ b, U' b → usedSo w0 φ m.out.length (done ++ cs.flatMap (names1 m)) b)
  | [], cs', ys, done, U, _, hr, h, _, hU => by
    simp only [mvL, Option.some.injEq] at h; subst h
    rw [hr.nil_left]
    exact ⟨U, .nil, by simpa using hU⟩
  | c :: cs, cs', ys, done, U, hall, hr, h, hnd, hU => by
    obtain ⟨y, zs, rfl, h0, ht⟩ := hr.head
    simp only [mvL] at h
    split at h
    · rename_i x xs hx hxs
      simp only [Option.some.injEq] at h; subst h
      have hnew : ok = true → ∀ n ∈ names1 m c, n ∉ done := by
        intro hok n hn hd
        have := hnd hok
        rw [List.nodup_append] at this
        exact this.2.2 n hd n (by simp [hn]) rfl
      obtain ⟨U1, r1, u1, _, _⟩ := mv1_sound E hm hI (hall c (by simp)) h0 hx hnew hU
      obtain ⟨U2, r2, u2⟩ := mvL_sound E hm hI cs xs zs (done ++ names1 m c) U1 (fun v hv => hall v (by simp [hv])) ht hxs (fun hok => by have := hnd hok; simpa [List.append_assoc] using this) u1
      exact ⟨U2, .cons r1 r2, fun b hb => by have := u2 b hb; simpa [List.append_assoc] using this⟩
    · simp at h
theorem mv2_sound {I' : Imm} {m' : Mem} {ok : Bool} {w0 : World} {all : List V} (E : Ends P I' w φ m m' ok w0 all) (hm : MemOk P I w φ m) (hI : ∀ b o, I b o → I' b o) {v v' : V} {y : Value} {done : List (Nat × Nat)} {U : Nat → Prop}
    (hall : ∀ c ∈ leaves2 v, c ∈ all) (hr : Rel P I w φ v y) (h : mv2 m ok v = some v') (hnd : ok = true → (done ++ (leaves2 v).flatMap (names1 m)).Nodup) (hU : ∀ b, U b → usedSo w0 φ m.out.length done b) :
    ∃ U', RelR2 P I' w (φ.below m.out.length) U v' y U' ∧ (∀ b, U' b → usedSo w0 φ m.out.length (done ++ (leaves2 v).flatMap (names1 m)) b) ∧ (∀ vs, v' ≠ .tup vs) := by
  by_cases hag : ∃ cs, v = .agg cs
  · obtain ⟨cs, rfl⟩ := hag
    obtain ⟨xs, rfl, hl, hp, ho⟩ := rel_agg hr
    simp only [mv2] at h
    split at h
    · rename_i hany
      have hlv : leaves2 (.agg cs) = cs := by simp [leaves2, hany]
      rw [hlv] at hall hnd ⊢
      cases hcs : mvL m ok cs with
      | none => simp [hcs] at h
      | some cs' =>
        simp only [hcs, Option.map_some, Option.some.injEq] at h; subst h
        obtain ⟨U', r1, u1⟩ := mvL_sound E hm hI cs cs' xs done U hall ⟨hl, hp⟩ hcs hnd hU
        exact ⟨U', .agg r1 ho, u1, fun _ h => by simp at h⟩
    · rename_i hany
      simp only [Option.some.injEq] at h; subst h
      have hlv : leaves2 (.agg cs) = [] := by simp only [leaves2, if_neg hany]
      rw [hlv]
      have hrefs : (V.agg cs).refs = false := by simpa [V.refs] using hany
      have hpure := pure_of hr hrefs (.inl rfl)
      have hplain : RelRL P I' w (φ.below m.out.length) U cs xs U := by
        have key : ∀ (cs : List V) (xs : List Value), All2 (fun v x => RelP I' w v x ∧ v.transit = false) cs xs → RelRL P I' w (φ.below m.out.length) U cs xs U := by
          intro cs
          induction cs with
          | nil => intro xs h; rw [h.nil_left]; exact .nil
          | cons c cs ih => intro xs h; obtain ⟨x, ys, rfl, h0, ht⟩ := h.head; exact .cons (.rel (.p h0.1) h0.2) (ih ys ht)
        refine key cs xs ⟨hl, fun i v x a b => ?_⟩
        cases hpure with
        | agg _ hc _ =>
          have := hc i v x a b
          refine ⟨this.mono hI (fun _ _ _ _ h => h), ?_⟩
          cases v <;> first | rfl | (cases this)
      exact ⟨U, .agg hplain ho, by simpa using hU, fun _ h => by simp at h⟩
  · have e : mv2 m ok v = mv1 m ok v := by cases v <;> first | rfl | exact absurd ⟨_, rfl⟩ hag
    have hlv : leaves2 v = [v] := by cases v <;> first | rfl | exact absurd ⟨_, rfl⟩ hag
    rw [e] at h
    rw [hlv] at hall hnd ⊢
    have hnew : ok = true → ∀ n ∈ names1 m v, n ∉ done := by
      intro hok n hn hd
      have := hnd hok
      rw [List.nodup_append] at this
      exact this.2.2 n hd n (by simp [hn]) rfl
    obtain ⟨U1, r1, u1, a1, t1⟩ := mv1_sound E hm hI (hall v (by simp)) hr h hnew hU
    exact ⟨U1, .one a1 r1, by simpa using u1, t1⟩
theorem mv2s_sound {I' : Imm} {m' : Mem} {ok : Bool} {w0 : World} {all : List V} (E : Ends P I' w φ m m' ok w0 all) (hm : MemOk P I w φ m) (hI : ∀ b o, I b o → I' b o) :
    ∀ (vs vs' : List V) (ys : List Value) (done : List (Nat × Nat)) (U : Nat → Prop), (∀ v ∈ vs, ∀ c ∈ leaves2 v, c ∈ all) → All2 (Rel P I w φ) vs ys → mv2s m ok vs = some vs' →
      (ok = true → (done ++ (vs.flatMap leaves2).flatMap (names1 m)).Nodup) → (∀ b, U b → usedSo w0 φ m.out.length done b) → ∃ U', RelR2L P I' w (φ.below m.out.length) U vs' ys U'
  | [], vs', ys, done, U, _, hr, h, _, hU => by
    simp only [mv2s, Option.some.injEq] at h; subst h
    rw [hr.nil_left]
    exact ⟨U, .nil⟩
  | v :: vs, vs', ys, done, U, hall, hr, h, hnd, hU => by
    obtain ⟨y, zs, rfl, h0, ht⟩ := hr.head
    simp only [mv2s] at h
    split at h
    · rename_i x xs hx hxs
      simp only [Option.some.injEq] at h; subst h
      obtain ⟨U1, r1, u1, _⟩ := mv2_sound E hm hI (done := done) (hall v (by simp)) h0 hx (fun hok => by
        have := hnd hok
        rw [List.flatMap_cons, List.flatMap_append, ← List.append_assoc, List.nodup_append] at this
        exact this.1) hU
      obtain ⟨U2, r2⟩ := mv2s_sound E hm hI vs xs zs (done ++ (leaves2 v).flatMap (names1 m)) U1 (fun v hv => hall v (by simp [hv])) ht hxs (fun hok => by have := hnd hok; simpa [List.append_assoc] using this) u1
      exact ⟨U2, .cons r1 r2⟩
    · simp at h
theorem leaves2_rel {v : V} {y : Value} (hr : Rel P I w φ v y) : ∀ c ∈ leaves2 v, ∃ x, Rel P I w φ c x := by
  intro c hc
  by_cases hag : ∃ cs, v = .agg cs
  · obtain ⟨cs, rfl⟩ := hag
    obtain ⟨xs, rfl, hl, hp, ho⟩ := rel_agg hr
    have hc' : c ∈ cs := by
      simp only [leaves2] at hc
      split at hc
      · exact hc
      · simp at hc
    obtain ⟨i, hi⟩ := List.mem_iff_getElem?.1 hc'
    obtain ⟨x, _, hx⟩ := All2.get (R := Rel P I w φ) ⟨hl, hp⟩ hi
    exact ⟨x, hx⟩
  · have hlv : leaves2 v = [v] := by cases v <;> first | rfl | exact absurd ⟨_, rfl⟩ hag
    rw [hlv] at hc
    simp only [List.mem_singleton] at hc
    subst hc
    exact ⟨y, hr⟩
theorem leaves_rel {v : V} {y : Value} (hr : Rel P I w φ v y) : ∀ c ∈ leaves v, ∃ x, Rel P I w φ c x := by
  by_cases ht : ∃ vs, v = .tup vs
  · obtain ⟨vs, rfl⟩ := ht
    obtain ⟨xs, rfl, hl, hp⟩ := rel_tup hr
    intro c hc
    obtain ⟨u, hu, hcu⟩ := List.mem_flatMap.1 hc
    obtain ⟨i, hi⟩ := List.mem_iff_getElem?.1 hu
    obtain ⟨x, _, hx⟩ := All2.get (R := Rel P I w φ) ⟨hl, hp⟩ hi
    exact leaves2_rel hx c hcu
  · have hlv : leaves v = leaves2 v := by cases v <;> first | rfl | exact absurd ⟨_, rfl⟩ ht
    rw [hlv]; exact leaves2_rel hr
theorem mv_sound {d : Bool} {I0 : Imm} {w0 : World} {φ0 : Phi} (hm : MemOk P I w φ m) (he : Ext I0 w0 φ0 I w φ) (h0 : ∀ r, φ0 r ≠ none → r.d < m.out.length) {v v' : V} {y : Value} (hr : Rel P I w φ v y) (h : mv d m v = some v') :
    ∃ I' U', Ext I w φ I' w φ ∧ MemOk P I' w φ (frzR d m v) ∧ (frzR d m v).out.length = m.out.length ∧ RelR P I' w (φ.below m.out.length) (usedB w0 (φ.below m.out.length)) v' y U' := by
  obtain ⟨xs, hxs⟩ := all2_of (R := Rel P I w φ) ((leaves v).filter fun c => !owned m (distinct d m v) c) (fun c hc => leaves_rel hr c ((List.mem_filter.1 hc).1))
  obtain ⟨I', m1, e1, c1, s1⟩ := frzL_sound _ xs I m hm hxs
  have hown : ∀ r ty off len, owned m (distinct d m v) (.rs r ty off len) = true → distinct d m v = true ∧ r.d = m.out.length := by
    intro r ty off len h
    simp only [owned] at h
    split at h
    · simp only [Bool.and_eq_true, decide_eq_true_eq] at h
      exact ⟨h.1.1.1.1.1, h.1.1.1.1.2⟩
    · simp at h
  have E : Ends P I' w φ m (frzR d m v) (distinct d m v) w0 (leaves v) := by
    refine ⟨m1, s1, fun c hc ho => c1 c (List.mem_filter.2 ⟨hc, by simp [ho]⟩), ?_, ?_⟩
    · intro r ty off len hmem ho
      refine frzL_keeps _ m (fun c hc r' ty' off' len' ec hsame => ?_)
      obtain ⟨hc1, hc2⟩ := List.mem_filter.1 hc
      subst ec
      obtain ⟨hok, hd⟩ := hown r ty off len ho
      have hnd : (names m v).Nodup := of_decide_eq_true (by simp only [distinct, Bool.and_eq_true] at hok; exact hok.2)
      have hd' : r'.d = m.out.length := by rw [← hsame.1]; exact hd
      have := nodup_flatMap (f := names1 m) (x := (r.s, r.i)) hnd hmem hc1 (by simp [names1, hd]) (by simp [names1, hd', hsame.2.1, hsame.2.2])
      rw [← this] at hc2
      simp [ho] at hc2
    · intro r l hl hd
      rcases he.fresh r l hl with ⟨r0, l0, hr0, _, hd0⟩ | hs
      · have := h0 r0 (by rw [hr0]; simp)
        omega
      · exact hs
  have hnd : distinct d m v = true → ([] ++ (leaves v).flatMap (names1 m)).Nodup := by
    intro hok
    rw [List.nil_append]
    exact of_decide_eq_true (by simp only [distinct, Bool.and_eq_true] at hok; exact hok.2)
  have hU : ∀ b, usedB w0 (φ.below m.out.length) b → usedSo w0 φ m.out.length [] b := fun b hb => .inl hb
  by_cases ht : ∃ vs, v = .tup vs
  · obtain ⟨vs, rfl⟩ := ht
    obtain ⟨ys, rfl, hl, hp⟩ := rel_tup hr
    simp only [mv, mvT] at h
    cases hvs : mv2s m (distinct d m (.tup vs)) vs with
    | none => simp [hvs] at h
    | some vs' =>
      simp only [hvs, Option.map_some, Option.some.injEq] at h; subst h
      obtain ⟨U', r1⟩ := mv2s_sound E hm e1.imm vs vs' ys [] _ (fun u hu c hc => List.mem_flatMap.2 ⟨u, hu, hc⟩) ⟨hl, hp⟩ hvs hnd hU
      exact ⟨I', U', e1, m1, s1.1, .tup r1⟩
  · have hlv : leaves v = leaves2 v := by cases v <;> first | rfl | exact absurd ⟨_, rfl⟩ ht
    have hmv : mv d m v = mv2 m (distinct d m v) v := by unfold mv; cases v <;> first | rfl | exact absurd ⟨_, rfl⟩ ht
    rw [hmv] at h
    rw [hlv] at hnd
    obtain ⟨U', r1, _, t1⟩ := mv2_sound E hm e1.imm (done := []) (fun c hc => by rw [hlv]; exact hc) hr h hnd hU
    exact ⟨I', U', e1, m1, s1.1, .one t1 r1⟩
end
end Go.Ev
namespace Go.Ev
section
variable {X : Env} {I : Imm} {w : World} {φ : Phi} {m : Mem}
def ExtOk (X : Env) : Prop := ∀ f args v, X.ext f args = some v → ∀ (I : Imm) (w : World) (xs : List Value), (∀ b o, I b o → b < w.heap.size) → GlobOk X I w → All2 (RelP I w) args xs →
  Calls X.P f ⟨xs⟩ w (FnPost X.P I w (fun _ => none) [] (.ret v, []))
def CallOk (X : Env) (call : CallF) : Prop := ∀ f args out r, call f args out = some r → ∀ (I : Imm) (w : World) (φ : Phi) (xs : List Value), (∀ b o, I b o → b < w.heap.size) → GlobOk X I w → OutOk X.P I w φ out →
  All2 (Rel X.P I w φ) args xs → Calls X.P f ⟨xs⟩ w (FnPost X.P I w φ out r)
theorem plain1_rel {v : V} {x : Value} {I' : Imm} {w' : World} {φ φ' : Phi} (h : Rel X.P I w φ v x) (hp : v.plain1 = true) : Rel X.P I' w' φ' v x := by
  cases v with
  | bool b => rw [rel_bool h]; exact .p (.bool _)
  | int k n => rw [rel_int h]; exact .p (.int _ _)
  | str s => rw [rel_str h]; exact .p (.str _)
  | ifc t v =>
    obtain ⟨y, rfl, hy⟩ := rel_ifc h
    cases v with
    | int k n => cases hy; exact .p (.ifc (.int _ _))
    | str s => cases hy; exact .p (.ifc (.str _))
    | _ => simp [V.plain1] at hp
  | _ => simp [V.plain1] at hp
theorem plain1_facts {v : V} (hp : v.plain1 = true) : v.transit = false ∧ v.isAgg = false ∧ (∀ vs, v ≠ .tup vs) ∧ ∀ m dst i, inst1 m dst i v = (m, v) := by
  cases v with
  | tup vs => simp [V.plain1] at hp
  | agg vs => simp [V.plain1] at hp
  | own vs ty => simp [V.plain1] at hp
  | _ => exact ⟨rfl, rfl, (fun _ h => by cases h), fun _ _ _ => rfl⟩
theorem plain_r2 {U U' : Nat → Prop} {v : V} {x : Value} {I' : Imm} {w' : World} {φ' : Phi} (h : RelR2 X.P I w φ U v x U') (hp : v.plain1 = true) : Rel X.P I' w' φ' v x := by
  obtain ⟨h1, h2, h3, _⟩ := plain1_facts hp
  cases h with
  | agg => simp [V.isAgg] at h2
  | one a b =>
    cases b with
    | own => simp [V.transit] at h1
    | rel c d => exact plain1_rel c hp
theorem plain_inst2s (dst : Nat) : ∀ (vs : List V) (i : Nat) (m : Mem), vs.all V.plain1 = true → inst2s m dst i vs = (m, vs)
  | [], _, _, _ => rfl
  | v :: vs, i, m, h => by
    simp only [List.all_cons, Bool.and_eq_true] at h
    have e : inst2 m dst i v = (m, v) := by
      have := (plain1_facts h.1).2.2.2 m dst i
      cases v <;> first | exact this | (simp [V.plain1] at h)
    simp only [inst2s, e, plain_inst2s dst vs _ m h.2]
theorem plain_install {v : V} (hp : v.plain = true) (m : Mem) (dst : Nat) : install m dst v = (m, v) := by
  by_cases ht : ∃ vs, v = .tup vs
  · obtain ⟨vs, rfl⟩ := ht
    simp only [install, plain_inst2s dst vs 1000 m hp]
  · have hp1 : v.plain1 = true := by cases v <;> first | exact hp | exact absurd ⟨_, rfl⟩ ht
    have := (plain1_facts hp1).2.2.2 m dst 1000
    cases v <;> first | exact this | (simp [V.plain1] at hp1)
theorem plain_rel {U U' : Nat → Prop} {v : V} {x : Value} {I' : Imm} {w' : World} {φ' : Phi} (h : RelR X.P I w φ U v x U') (hp : v.plain = true) : Rel X.P I' w' φ' v x := by
  cases h with
  | tup a =>
    have key : ∀ (vs : List V) (xs : List Value) (U : Nat → Prop), RelR2L X.P I w φ U vs xs U' → vs.all V.plain1 = true → All2 (Rel X.P I' w' φ') vs xs := by
      intro vs
      induction vs with
      | nil => intro xs U h _; cases h; exact .nil
      | cons v vs ih =>
        intro xs U h hp
        simp only [List.all_cons, Bool.and_eq_true] at hp
        cases h with
        | cons a b => exact .cons (plain_r2 a hp.1) (ih _ _ b hp.2)
    have := key _ _ _ a hp
    exact .tup this.1 this.2
  | one a b =>
    refine plain_r2 b ?_
    cases v <;> first | exact hp | exact absurd rfl (a _)
theorem iso_ext {I1 I2 : Imm} {w' : World} (h : Ext I1 w (fun _ => none) I2 w' (fun _ => none)) (φ : Phi) : Ext I1 w φ I2 w' φ := by
  refine ⟨h.imm, h.cell, fun _ _ h => h, h.hsize, h.os, h.tape, h.output, fun b hb _ => h.block b hb (fun r l hl => by simp at hl), fun r l hl => .inl ⟨r, l, hl, rfl, rfl⟩, ?_, h.plain, h.old⟩
  intro b o hb
  rcases h.immNew b o hb with h1 | ⟨r, l, hl, _⟩ | h1
  · exact .inl h1
  · simp at hl
  · exact .inr (.inr h1)
theorem iso_mem {P : Program} {I1 I2 : Imm} {w' : World} (h : Ext I1 w (fun _ => none) I2 w' (fun _ => none)) (hm : MemOk P I1 w φ m) : MemOk P I2 w' φ m := by
  refine hm.keep h.imm h.cell (fun r loc hl => h.block loc.b (hm.size r loc hl) (fun r l hl => by simp at hl)) (fun r loc o hl hi => ?_) h.hsize
  rcases h.immNew loc.b o hi with h1 | ⟨r, l, hl', _⟩ | h1
  · exact h1
  · simp at hl'
  · have := hm.size r loc hl; omega
theorem all_ext {I2 : Imm} {w' : World} (h : Ext (allI w) w (fun _ => none) I2 w' (fun _ => none)) (hold : ∀ b o, I b o → b < w.heap.size) (φ : Phi) : Ext I w φ I w' φ := by
  refine ⟨fun _ _ h => h, fun b o x hi hx => h.cell b o x (hold b o hi) hx, fun _ _ h => h, h.hsize, h.os, h.tape, h.output, fun b hb _ => h.block b hb (fun r l hl => by simp at hl), fun r l hl => .inl ⟨r, l, hl, rfl, rfl⟩,
    fun b o hb => .inl hb, h.plain, fun ho b o hi => Nat.lt_of_lt_of_le (ho b o hi) h.hsize⟩
theorem all_mem {P : Program} {I2 : Imm} {w' : World} (h : Ext (allI w) w (fun _ => none) I2 w' (fun _ => none)) (hold : ∀ b o, I b o → b < w.heap.size) (hm : MemOk P I w φ m) : MemOk P I w' φ m :=
  hm.keep (fun _ _ h => h) (fun b o x hi hx => h.cell b o x (hold b o hi) hx) (fun r loc hl => h.block loc.b (hm.size r loc hl) (fun r l hl => by simp at hl)) (fun _ _ _ _ hi => hi) h.hsize
theorem out_nil {P : Program} {φ : Phi} {out : List Rows} (h : OutOk P I w φ out) (hl : out.length = 0) : φ = fun _ => none := by
  cases out with
  | nil => funext r; exact h r
  | cons => simp at hl
def CallPost (P : Program) (I : Imm) (w : World) (φ : Phi) (n : Nat) : Res × Mem → Ending → World → Prop
  | (.ret v, m'), .returned x, w' => ∃ I' φ', Ext I w φ I' w' φ' ∧ MemOk P I' w' φ' m' ∧ m'.out.length = n ∧ Rel P I' w' φ' v x
  | (.panic v, m'), .panicked chain, w' => ∃ I' φ' x, chain = [{ v := x, recovered := false }] ∧ Ext I w φ I' w' φ' ∧ MemOk P I' w' φ' m' ∧ m'.out.length = n ∧ Rel P I' w' φ' v x
  | _, _, _ => False
theorem pureArgs {P : Program} {vs : List V} {xs : List Value} (h : All2 (Rel P I w φ) vs xs) (hn : vs.any V.refs = false) : All2 (RelP I w) vs xs :=
  ⟨h.1, fun i v x a b => pureR (h.2 i v x a b) (by simpa using List.any_eq_false.1 hn v (List.mem_of_getElem? a))⟩
theorem iso_take {I1 : Imm} (hIext : Ext I w φ I1 w φ) (hm : MemOk X.P I1 w φ m) (dst : Nat) {v : V} {e : Ending} {w' : World} (h : FnPost X.P I1 w (fun _ => none) [] (.ret v, []) e w' ∨ ∃ out, FnPost X.P I1 w (fun _ => none) [] (.ret v, out) e w') :
    CallPost X.P I w φ m.out.length (.ret (install m dst v).2, (install m dst v).1) e w' := by
  have h' : ∃ out, FnPost X.P I1 w (fun _ => none) [] (.ret v, out) e w' := h.elim (fun h => ⟨_, h⟩) id
  obtain ⟨out, h⟩ := h'
  cases e with
  | returned x =>
    obtain ⟨I2, φ2, U', k1, k2, k3, k4⟩ := h
    have hφ2 := out_nil k2 (by simpa using k3)
    subst hφ2
    have hm2 := iso_mem k1 hm
    have he2 := hIext.trans (iso_ext k1 φ)
    obtain ⟨φ3, t1, t2⟩ := install_sound (P := X.P) (I0 := I) (w0 := w) (φ0 := φ) (n := m.out.length) (U := usedB w fun _ => none) ⟨hm2, he2, fun r l hl => .inl (hm.size r l hl), fun b hb => .inl hb, rfl⟩ (k4.phi (φ' := φ) (fun r l h => by simp at h)) dst
    exact ⟨I2, φ3, t1.ext, t1.mem, t1.len, t2⟩
  | panicked c => exact h.elim
  | outgrown => exact h.elim
theorem doCall_sound {call : CallF} (hcall : CallOk X call) (hext : ExtOk X) {f : FuncId} {args : List V} {xs : List Value} {m' : Mem} {dst : Nat} {r : Res × Mem} (hold : ∀ b o, I b o → b < w.heap.size) (hg : GlobOk X I w)
    (hlen : m'.out.length = m.out.length) (hm : MemOk X.P I w φ m)
    (hargs : (∃ I', Ext I w φ I' w φ ∧ MemOk X.P I' w φ m' ∧ All2 (Rel X.P I' w φ) args xs) ∨ (scalarRes X.P f = true ∧ args.any V.refs = false ∧ m' = m ∧ All2 (Rel X.P (allI w) w φ) args xs))
    (e : doCall X call f args m' dst = some r) : Calls X.P f ⟨xs⟩ w (CallPost X.P I w φ m.out.length r) := by
  have holdA : ∀ b o, allI w b o → b < w.heap.size := fun b o h => h
  have hgA : GlobOk X (allI w) w := by
    refine ⟨fun g h => ?_, fun g v ty h => ?_⟩
    · obtain ⟨k, h1, h2⟩ := hg.1 g h
      exact ⟨k, h1, hold _ _ h2⟩
    obtain ⟨zs, hz⟩ := hg.2 g v ty h
    exact ⟨zs, fun c u hc => ⟨(hz c u hc).1, hold _ _ (hz c u hc).2.1, (hz c u hc).2.2.1, (hz c u hc).2.2.2.mono (fun b o h => hold b o h) (fun _ _ _ _ h => h)⟩⟩
  unfold doCall at e
  split at e
  · rename_i v hv
    split at e
    · rename_i hc
      simp only [Option.some.injEq] at e; subst e
      rcases hargs with ⟨I', e1, m1, a1⟩ | ⟨hs, _, rfl, a1⟩
      · refine Calls.mono (hext f args v hv I' w xs (e1.old hold) (hg.ext e1) (pureArgs a1 hc.1)) (fun e w' h => ?_)
        rw [← hlen]
        exact iso_take e1 m1 dst (.inl h)
      · refine Calls.mono (hext f args v hv (allI w) w xs holdA hgA (pureArgs a1 hc.1)) (fun e w' h => ?_)
        have hp := hc.2 hs
        cases e with
        | returned x =>
          obtain ⟨I2, φ2, U', k1, k2, k3, k4⟩ := h
          have hφ2 := out_nil k2 (by simp)
          subst hφ2
          rw [plain_install hp]
          exact ⟨I, φ, all_ext k1 hold φ, all_mem k1 hold hm, rfl, plain_rel k4 hp⟩
        | panicked c => exact h.elim
        | outgrown => exact h.elim
    · simp at e
  · rename_i hv
    split at e
    · rename_i hrefs
      rcases hargs with ⟨I', e1, m1, a1⟩ | ⟨_, hs, _, _⟩
      rotate_left
      · rw [hs] at hrefs; simp at hrefs
      have hout : OutOk X.P I' w φ (m'.own :: m'.out) := m1
      split at e
      · rename_i v own out hcl
        split at e
        rotate_left
        · simp at e
        simp only [Option.some.injEq] at e; subst e
        refine Calls.mono (hcall f args _ _ hcl I' w φ xs (e1.old hold) (hg.ext e1) hout a1) (fun e w' h => ?_)
        cases e with
        | returned x =>
          obtain ⟨I2, φ2, U', k1, k2, k3, k4⟩ := h
          have hl2 : out.length = m.out.length := by simp at k3; omega
          obtain ⟨φ3, t1, t2⟩ := install_sound (P := X.P) (I0 := I) (w0 := w) (φ0 := φ) (n := m.out.length) (m := ⟨own, out⟩) ⟨k2, e1.trans k1, fun r l hl => .inr ⟨r, l, hl, rfl⟩, fun b hb => .inl hb, hl2⟩ k4 dst
          exact ⟨I2, φ3, t1.ext, t1.mem, t1.len, t2⟩
        | panicked c => exact h.elim
        | outgrown => exact h.elim
      · rename_i v own out hcl
        split at e
        rotate_left
        · simp at e
        simp only [Option.some.injEq] at e; subst e
        refine Calls.mono (hcall f args _ _ hcl I' w φ xs (e1.old hold) (hg.ext e1) hout a1) (fun e w' h => ?_)
        cases e with
        | returned x => exact h.elim
        | panicked c =>
          obtain ⟨I2, φ2, x, hc, k1, k2, k3, k4⟩ := h
          have hl2 : out.length = m.out.length := by simp at k3; omega
          exact ⟨I2, φ2, x, hc, e1.trans k1, k2, hl2, k4⟩
        | outgrown => exact h.elim
      · simp at e
    · rename_i hrefs
      have hrefs : args.any V.refs = false := by simpa using hrefs
      have pureRel : ∀ I1 : Imm, All2 (Rel X.P I1 w φ) args xs → All2 (Rel X.P I1 w (fun _ => none)) args xs := fun I1 h => (pureArgs h hrefs).mono fun _ _ h => .p h
      have hnone : ∀ I1 : Imm, OutOk X.P I1 w (fun _ => none) [] := fun I1 r => rfl
      split at e
      · rename_i v out hcl
        split at e
        · rename_i hpl
          simp only [Option.some.injEq] at e; subst e
          rcases hargs with ⟨I', e1, m1, a1⟩ | ⟨hs, _, rfl, a1⟩
          · refine Calls.mono (hcall f args _ _ hcl I' w (fun _ => none) xs (e1.old hold) (hg.ext e1) (hnone _) (pureRel _ a1)) (fun e w' h => ?_)
            rw [← hlen]
            exact iso_take e1 m1 dst (.inr ⟨_, h⟩)
          · refine Calls.mono (hcall f args _ _ hcl (allI w) w (fun _ => none) xs holdA hgA (hnone _) (pureRel _ a1)) (fun e w' h => ?_)
            have hp := hpl hs
            cases e with
            | returned x =>
              obtain ⟨I2, φ2, U', k1, k2, k3, k4⟩ := h
              have hφ2 := out_nil k2 (by simpa using k3)
              subst hφ2
              rw [plain_install hp]
              exact ⟨I, φ, all_ext k1 hold φ, all_mem k1 hold hm, rfl, plain_rel k4 hp⟩
            | panicked c => exact h.elim
            | outgrown => exact h.elim
        · simp at e
      · rename_i v out hcl
        split at e
        · rename_i hpl
          simp only [Option.some.injEq] at e; subst e
          rcases hargs with ⟨I', e1, m1, a1⟩ | ⟨hs, _, rfl, a1⟩
          · refine Calls.mono (hcall f args _ _ hcl I' w (fun _ => none) xs (e1.old hold) (hg.ext e1) (hnone _) (pureRel _ a1)) (fun e w' h => ?_)
            cases e with
            | returned x => exact h.elim
            | panicked c =>
              obtain ⟨I2, φ2, x, hc, k1, k2, k3, k4⟩ := h
              have hφ2 := out_nil k2 (by simpa using k3)
              subst hφ2
              exact ⟨I2, φ, x, hc, e1.trans (iso_ext k1 φ), iso_mem k1 m1, hlen, k4.phi (fun r l h => by simp at h)⟩
            | outgrown => exact h.elim
          · refine Calls.mono (hcall f args _ _ hcl (allI w) w (fun _ => none) xs holdA hgA (hnone _) (pureRel _ a1)) (fun e w' h => ?_)
            have hp := hpl hs
            cases e with
            | returned x => exact h.elim
            | panicked c =>
              obtain ⟨I2, φ2, x, hc, k1, k2, k3, k4⟩ := h
              have hφ2 := out_nil k2 (by simpa using k3)
              subst hφ2
              exact ⟨I, φ, x, hc, all_ext k1 hold φ, all_mem k1 hold hm, rfl, plain1_rel k4 hp⟩
            | outgrown => exact h.elim
        · simp at e
      · simp at e
end
end Go.Ev
