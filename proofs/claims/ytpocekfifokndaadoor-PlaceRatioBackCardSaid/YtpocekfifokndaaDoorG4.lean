/- Part 4 of the proof: an evaluator of the program, proved sound against the model, and what the functions of the program compute. No condition but those each theorem states. -/
import Derived.Test.YtpocekfifokndaaDoorG3
import Derived.Deep.AppendSrc
import Derived.Laws.AppendOwn
import Derived.Deep.Upon
import Derived.Recover
set_option linter.unusedSimpArgs false
set_option linter.unusedVariables false
namespace Go.Ev
section
variable {X : Env} {I : Imm} {w : World} {φ : Phi} {m : Mem} {t : Tm} {a : Act} {o : Oper} {r : OpR}
theorem row_write {P : Program} {row : Row} {l : Loc} {j off : Nat} {e e' : V} {xs : List Value} (hok : RowOk P I w φ row (some l)) (hfz : row.fz = false) (hj : row.es[j]? = some e) (hw : e'.width = l.z)
    (hle : off + xs.length ≤ l.z)
    (hc : ∀ (c : Nat) (u : V), e'.cells[c]? = some u →
      (∃ k y, c = off + k ∧ xs[k]? = some y ∧ y.oneCell' = true ∧ (if row.arr = true then RelP I w u y else Rel P I w φ u y)) ∨ ((c < off ∨ off + xs.length ≤ c) ∧ e.cells[c]? = some u)) :
    RowOk P I (w.setCells l.b (l.base + j * l.z + off) xs) φ { row with es := row.es.set j e' } (some l) ∧
    (∀ b o x, I b o → w.cell? ⟨b, o, none⟩ = some x → (w.setCells l.b (l.base + j * l.z + off) xs).cell? ⟨b, o, none⟩ = some x) := by
  obtain ⟨h1, h2, h3, ⟨cs, tt, h4, h4'⟩, h5, h6, h7, h8⟩ := hok
  have hI : ∀ o, l.base ≤ o → ¬ I l.b o := fun o ho => h7 o ho (fun hf => by rw [hfz] at hf; simp at hf)
  have hjl := get_lt hj
  have hjz : (j + 1) * l.z ≤ l.cap * l.z := Nat.mul_le_mul_right _ (by omega)
  have e1 : (j + 1) * l.z = j * l.z + l.z := by rw [Nat.add_mul]; omega
  have hcell : ∀ b o x, I b o → w.cell? ⟨b, o, none⟩ = some x → (w.setCells l.b (l.base + j * l.z + off) xs).cell? ⟨b, o, none⟩ = some x := by
    intro b o x hi hx
    rw [World.cell?_setCells_out, hx]
    intro hb _
    simp only at hb ⊢
    subst hb
    have : ¬ l.base ≤ o := fun ho => hI o ho hi
    left; omega
  refine ⟨⟨by simpa using h1, h2, h3, ?_, ?_, ?_, ?_, ?_⟩, hcell⟩
  · obtain ⟨cs', c1, c2⟩ := setCells_same l.b xs (l.base + j * l.z + off) w cs tt (0, 0) h4
    exact ⟨cs', tt, c1, by rw [c2]; exact h4'⟩
  · intro j' e2 hj'
    simp only at hj'
    by_cases hjj : j = j'
    · subst hjj
      rw [List.getElem?_set_self hjl] at hj'
      simp only [Option.some.injEq] at hj'; subst hj'
      exact hw
    · rw [List.getElem?_set_ne hjj] at hj'
      exact h5 j' e2 hj'
  · intro j' e2 c u hj' hcu
    simp only at hj'
    have old : ∀ x, (if row.arr = true then RelP I w u x else Rel P I w φ u x) →
        (if row.arr = true then RelP I (w.setCells l.b (l.base + j * l.z + off) xs) u x else Rel P I (w.setCells l.b (l.base + j * l.z + off) xs) φ u x) := by
      intro x hx
      split
      · rename_i ha; rw [if_pos ha] at hx; exact hx.mono (fun _ _ h => h) hcell
      · rename_i ha; rw [if_neg ha] at hx; exact hx.mono (fun _ _ h => h) hcell (fun _ _ h => h)
    by_cases hjj : j = j'
    · subst hjj
      rw [List.getElem?_set_self hjl] at hj'
      simp only [Option.some.injEq] at hj'; subst hj'
      rcases hc c u hcu with ⟨k, y, rfl, hk, ho, hr⟩ | ⟨hout, hcu'⟩
      · refine ⟨y, ?_, ho, old y hr⟩
        have hkl := get_lt hk
        have := World.cell?_setCells_in l.b xs (l.base + j * l.z + off) w (fun i hi => by rw [cell_of_heap h4]; simp; omega) k hkl
        rw [← Nat.add_assoc]
        rw [this]
        simp [List.getElem?_eq_getElem hkl] at hk
        rw [hk]
      · obtain ⟨x, x1, x2, x3⟩ := h6 j e c u hj hcu'
        refine ⟨x, ?_, x2, old x x3⟩
        rw [World.cell?_setCells_out, x1]
        intro _ _
        simp only
        omega
    · rw [List.getElem?_set_ne hjj] at hj'
      obtain ⟨x, x1, x2, x3⟩ := h6 j' e2 c u hj' hcu
      refine ⟨x, ?_, x2, old x x3⟩
      have hcl := cells_lt hcu
      rw [h5 j' e2 hj'] at hcl
      rw [World.cell?_setCells_out, x1]
      intro _ _
      simp only
      rcases Nat.lt_or_gt_of_ne hjj with h | h
      · have : (j + 1) * l.z ≤ j' * l.z := Nat.mul_le_mul_right _ h
        omega
      · have : (j' + 1) * l.z ≤ j * l.z := Nat.mul_le_mul_right _ h
        have : (j' + 1) * l.z = j' * l.z + l.z := by rw [Nat.add_mul]; omega
        omega
  · intro o ho hf
    exact hI o ho
  · intro hf
    simp only at hf
    rw [hfz] at hf
    simp at hf
theorem setElem_cases {P : Program} {row row' : Row} {j off : Nat} {ty : TypeId} {v : V} (h : setElem P row j off ty v = some row') (hv : v.ok1 = true) :
    v.width = P.cellsOf ty ∧ ∃ e e', row.es[j]? = some e ∧ row' = { row with es := row.es.set j e' } ∧
      ((ty = row.ty ∧ off = 0 ∧ e' = v) ∨ (∃ cs, e = .agg cs ∧ off + v.width ≤ cs.length ∧ e' = .agg (splice cs off v.cells))) := by
  unfold setElem at h
  split at h
  · rename_i e he
    split at h
    · rename_i hc
      split at h
      · rename_i hw
        simp only [Option.some.injEq] at h
        exact ⟨hw, e, v, he, h.symm, .inl ⟨hc.1, hc.2, rfl⟩⟩
      · simp at h
    · split at h
      · rename_i cs
        split at h
        · rename_i hw
          simp only [Option.some.injEq] at h
          exact ⟨hw.2, _, _, he, h.symm, .inr ⟨cs, rfl, hw.1, rfl⟩⟩
        · simp at h
      · simp at h
  · simp at h
theorem write_elem {P : Program} {row row' : Row} {l : Loc} {j off : Nat} {ty : TypeId} {v : V} {x : Value} {ψ : Phi} (hok : RowOk P I w ψ row (some l)) (hfz : row.fz = false)
    (h : setElem P row j off ty v = some row') (hv : v.ok1 = true) (hr : Rel P I w ψ v x) (hrefs : row.arr = true → v.refs = false) (hi : okT P ty = true) :
    ∃ w', (Instr.storeAt ty (.pointer (some ⟨l.b, l.base + j * l.z + off, none⟩)) x).run P w = .ok () w' ∧ w' = w.setCells l.b (l.base + j * l.z + off) x.cells.toList ∧ row'.g = row.g ∧
      RowOk P I w' ψ row' (some l) ∧ (∀ b o x, I b o → w.cell? ⟨b, o, none⟩ = some x → w'.cell? ⟨b, o, none⟩ = some x) := by
  obtain ⟨hwd, e, e', he, rfl, hcase⟩ := setElem_cases h hv
  obtain ⟨c1, c2, c3⟩ := rel_cells hr hv
  have hew := hok.2.2.2.2.1 j e he
  have hz := hok.2.1
  have hvl := ok1_cells hv
  have hxl : x.cells.toList.length = v.width := by simpa using c3
  have hle : off + x.cells.toList.length ≤ l.z := by
    rcases hcase with ⟨rfl, rfl, rfl⟩ | ⟨cs, rfl, hle, rfl⟩
    · omega
    · have : cs.length = l.z := hew
      omega
  have hw' : e'.width = l.z := by
    rcases hcase with ⟨rfl, rfl, rfl⟩ | ⟨cs, rfl, hle, rfl⟩
    · omega
    · have : cs.length = l.z := hew
      simp only [V.width]
      rw [splice_length _ _ _ (by omega)]; exact this
  have hcellv : ∀ (c : Nat) (u : V), v.cells[c]? = some u → ∃ y, x.cells.toList[c]? = some y ∧ y.oneCell' = true ∧ (if row.arr = true then RelP I w u y else Rel P I w ψ u y) := by
    intro c u hu
    by_cases ha : row.arr = true
    · obtain ⟨y, y1, y2, y3⟩ := cells_pure hr hv (hrefs ha) c u hu
      exact ⟨y, by simpa using y1, y2, by rw [if_pos ha]; exact y3⟩
    · obtain ⟨y, hy, hrel⟩ := c1.get hu
      exact ⟨y, hy, c2 y (List.mem_of_getElem? hy), by rw [if_neg ha]; exact hrel⟩
  obtain ⟨q1, q2⟩ := row_write hok hfz he hw' hle (by
    intro c u hcu
    rcases hcase with ⟨rfl, rfl, rfl⟩ | ⟨cs, rfl, hle', rfl⟩
    · obtain ⟨y, y1, y2, y3⟩ := hcellv c u hcu
      exact .inl ⟨c, y, by omega, y1, y2, y3⟩
    · change (splice cs off v.cells)[c]? = some u at hcu
      rw [splice_get _ _ _ (by omega)] at hcu
      split at hcu
      · rename_i hc
        obtain ⟨y, y1, y2, y3⟩ := hcellv (c - off) u hcu
        exact .inl ⟨c - off, y, by omega, y1, y2, y3⟩
      · exact .inr ⟨by omega, hcu⟩)
  refine ⟨_, ?_, rfl, rfl, q1, q2⟩
  have hjl := get_lt he
  have hcap := hok.1
  have hjz : (j + 1) * l.z ≤ l.cap * l.z := Nat.mul_le_mul_right _ (by omega)
  have e1 : (j + 1) * l.z = j * l.z + l.z := by rw [Nat.add_mul]; omega
  have hrun := run_write hok (l.base + j * l.z + off) x.cells.toList (by omega) c2
  have hne : ¬ (x.cells.size ≠ P.cellsOf ty) := by omega
  simp only [Instr.storeAt, Instr.sureAddr, storeVar, Sem.run_bind, Sem.run_pure, Result.andThen_ok, okT_size hi, if_neg hne, hrun]
theorem depth_rel {P : Program} {d : Nat} {v : V} {x : Value} (h : Rel P I w φ v x) (hd : v.depthOk d = true) (h1 : v.ok1 = true) : Rel P I w (φ.upto d) v x := by
  have one : ∀ (u : V) (y : Value), Rel P I w φ u y → depth1 d u = true → y.oneCell' = true → Rel P I w (φ.upto d) u y := by
    intro u y hu hd' hy
    cases hu with
    | p h => exact .p h
    | ptr h => exact .ptr (by simp only [depth1, decide_eq_true_eq] at hd'; unfold Phi.upto; rw [if_pos hd']; exact h)
    | rsNil h => exact .rsNil (by simp only [depth1, decide_eq_true_eq] at hd'; unfold Phi.upto; rw [if_pos hd']; exact h)
    | rs h a b => exact .rs (by simp only [depth1, decide_eq_true_eq] at hd'; unfold Phi.upto; rw [if_pos hd']; exact h) a b
    | rsE h a => exact .rsE (by simp only [depth1, decide_eq_true_eq] at hd'; unfold Phi.upto; rw [if_pos hd']; exact h) a
    | fn a b c e =>
      refine .fn a b c (fun i v x p q => ?_)
      have hr := e i v x p q
      simp only [depth1, List.all_eq_true] at hd'
      have := hd' v (List.mem_of_getElem? p)
      cases v with
      | ptr r j off =>
        simp only [decide_eq_true_eq] at this
        obtain ⟨l, hl, rfl⟩ := rel_ptr hr
        exact .ptr (by unfold Phi.upto; rw [if_pos this]; exact hl)
      | _ => simp at this
    | agg => simp [Value.oneCell'] at hy
    | tup => simp [Value.oneCell'] at hy
  cases v with
  | agg cs =>
    obtain ⟨xs, rfl, hl, hp, ho⟩ := rel_agg h
    refine .agg hl (fun i u y p q => ?_) ho
    simp only [V.depthOk] at hd
    have hy := ho y (List.mem_of_getElem? q)
    split at hd
    · exact one u y (hp i u y p q) (List.all_eq_true.1 hd u (List.mem_of_getElem? p)) hy
    · rename_i hn
      have : u.loose = false := by
        simp only [List.any_eq_true, not_exists, not_and, Bool.not_eq_true] at hn
        exact hn u (List.mem_of_getElem? p)
      exact .p (pure1 (hp i u y p q) hy this)
  | tup => simp [V.ok1] at h1
  | undef => simp [V.ok1] at h1
  | junk => simp [V.ok1] at h1
  | own => simp [V.ok1] at h1
  | _ =>
    obtain ⟨c1, c2, _⟩ := rel_cells h h1
    refine one _ x h hd ?_
    cases x with
    | agg cs =>
      exfalso
      cases h with
      | p h => cases h
    | tuple cs => exact absurd h (fun h => by cases h with | p h => cases h)
    | _ => rfl
theorem unNil1_sound {P : Program} (h : MemOk P I w φ m) (r : Ref) (off : Nat) {v : V} {x : Value} (hr : Rel P I w φ v x) :
    ∃ φ', MemOk P I w φ' (unNil1 m r off v).1 ∧ Ext I w φ I w φ' ∧ Rel P I w φ' (unNil1 m r off v).2 x ∧ (unNil1 m r off v).1.out.length = m.out.length := by
  unfold unNil1
  split
  · rename_i hn
    have hx : x = .slice none 0 0 := by
      cases v with
      | nilS => exact rel_nilS hr
      | rs r' ty off len =>
        simp only [nilIn] at hn
        split at hn
        · simp only [Bool.and_eq_true, decide_eq_true_eq] at hn
          obtain ⟨⟨h1, h2⟩, h3⟩ := hn
          subst h1; subst h2
          cases hr with
          | p h => cases h
          | rsNil h => rfl
          | rs hl _ _ =>
            exfalso
            cases hrow : m.row r' with
            | none => rw [hrow] at h3; simp at h3
            | some row =>
              rw [hrow] at h3
              obtain ⟨l', hl', hok⟩ := h.live r' row hrow (h.zero r' (by rw [hl]; simp))
              rw [hl] at hl'
              have := Option.some.inj hl'
              subst this
              exact hok.2.2.1 (by simpa using h3)
          | rsE _ h0 => exact absurd h0 (by omega)
        · simp at hn
      | _ => simp [nilIn] at hn
    split
    · rename_i rows hrows
      obtain ⟨m1, e1⟩ := step_newNilAt (P := P) h r.d r.s (500 + off) hrows 0
      refine ⟨_, m1, e1, ?_, by simp⟩
      rw [hx]
      exact .rsNil (Phi.put_same _ _ _)
    · exact ⟨φ, h, Ext.refl _ _ _, .p (.junk _ (fun _ h => by rw [hx] at h; cases h)), rfl⟩
  · exact ⟨φ, h, Ext.refl _ _ _, hr, rfl⟩
theorem unNilL_sound {P : Program} (r : Ref) : ∀ (cs : List V) (xs : List Value) (off : Nat) {m : Mem} {φ : Phi}, MemOk P I w φ m → cs.length = xs.length →
    (∀ (i : Nat) (v : V) (x : Value), cs[i]? = some v → xs[i]? = some x → Rel P I w φ v x) →
    ∃ φ', MemOk P I w φ' (unNilL m r off cs).1 ∧ Ext I w φ I w φ' ∧ cs.length = (unNilL m r off cs).2.length ∧ (∀ (i : Nat) (v : V) (x : Value), (unNilL m r off cs).2[i]? = some v → xs[i]? = some x → Rel P I w φ' v x) ∧ (unNilL m r off cs).1.out.length = m.out.length
  | [], xs, off, m, φ, h, hl, hr => ⟨φ, h, Ext.refl _ _ _, rfl, fun i v x hv _ => by simp [unNilL] at hv, rfl⟩
  | c :: cs, [], off, m, φ, h, hl, hr => by simp at hl
  | c :: cs, x :: xs, off, m, φ, h, hl, hr => by
    obtain ⟨φ1, m1, e1, r1, l1⟩ := unNil1_sound (P := P) h r off (hr 0 c x rfl rfl)
    obtain ⟨φ2, m2, e2, k2, r2, l2⟩ := unNilL_sound r cs xs (off + 1) m1 (by simpa using hl) (fun i v y a b => (hr (i + 1) v y (by simpa using a) (by simpa using b)).ext e1)
    refine ⟨φ2, m2, e1.trans e2, by simp only [unNilL, List.length_cons]; rw [k2], fun i v y a b => ?_, l2.trans l1⟩
    cases i with
    | zero =>
      simp only [unNilL, List.getElem?_cons_zero, Option.some.injEq] at a b
      subst a; subst b
      exact r1.ext e2
    | succ i => exact r2 i v y (by simpa [unNilL] using a) (by simpa using b)
theorem unNil_sound {P : Program} (h : MemOk P I w φ m) (r : Ref) (off : Nat) {v : V} {x : Value} (hr : Rel P I w φ v x) :
    ∃ φ', MemOk P I w φ' (unNil m r off v).1 ∧ Ext I w φ I w φ' ∧ Rel P I w φ' (unNil m r off v).2 x ∧ (unNil m r off v).1.out.length = m.out.length := by
  cases v with
  | agg cs =>
    simp only [unNil]
    split
    · obtain ⟨xs, rfl, hl, hr', h1⟩ := rel_agg hr
      obtain ⟨φ', m1, e1, k1, r1, l1⟩ := unNilL_sound (P := P) r cs xs off h hl hr'
      exact ⟨φ', m1, e1, .agg (by rw [← k1]; exact hl) r1 h1, l1⟩
    · exact ⟨φ, h, Ext.refl _ _ _, hr, rfl⟩
  | _ => exact unNil1_sound h r off hr
theorem op_store {ty : TypeId} {x y : Operand} (hm : MemOk X.P I w φ m) (ht : TmOk X I w φ t a) (hg : GlobOk X I w) (hop : o.op = .store ty x y) (e : evOp X m t o = some r) :
    OpPost X I w φ m r ((execOp a.eval o).run X.P w) := by
  simp only [evOp, hop] at e
  have hx := opd_rel ht hg x
  have hy := opd_rel ht hg y
  split at e
  · rename_i r0 j off h0
    rw [h0] at hx
    obtain ⟨l, hl, he⟩ := rel_ptr hx
    have fin : ∀ (I1 : Imm) (φ1 : Phi) (m1 : Mem) (row row' : Row) (v : V), MemOk X.P I1 w φ1 m1 → Ext I w φ I1 w φ1 → m1.out.length = m.out.length → m1.row r0 = some row → Rel X.P I1 w (φ1.upto r0.d) v (a.eval y) →
        row.fz = false → v.ok1 = true → (row.arr = true → v.refs = false) → okT X.P ty = true → setElem X.P row j off ty v = some row' →
        OpPost X I w φ m (.skip (m1.set r0.d r0.s r0.i row')) ((execOp a.eval o).run X.P w) := by
      intro I1 φ1 m1 row row' v hm1 e1 hlen hrow hrel hfz hok1 href hokT hset
      have hl1 := e1.phi _ _ hl
      obtain ⟨l', hl', hok⟩ := hm1.live r0 row hrow (hm1.zero r0 (by rw [hl1]; simp))
      rw [hl1] at hl'
      have := Option.some.inj hl'
      subst this
      obtain ⟨w', w1, w2, w3, w4, w5⟩ := write_elem (P := X.P) hok hfz hset hok1 hrel href hokT
      have hpl : PlainAt w' l.b := by
        obtain ⟨_, _, _, ⟨cs, tt, c1, _⟩, _⟩ := w4
        intro x hx
        rw [c1] at hx
        exact ⟨cs, tt, (Option.some.inj hx).symm⟩
      have hs := setCells_os l.b (a.eval y).cells.toList (l.base + j * l.z + off) w
      obtain ⟨q1, q2⟩ := step_rewrite (P := X.P) (row' := row') (l' := l) (φ' := φ1) (w' := w') hm1 hrow hl1 w5 (fun b hb => by rw [w2]; exact setCells_ne _ _ _ _ _ hb) (by rw [w2]; exact setCells_size _ _ _ _)
        (by rw [w2]; exact hs.1) (by rw [w2]; exact hs.2.1) (by rw [w2]; exact hs.2.2) hpl rfl (.inl ⟨w3, rfl, rfl⟩) w4
      refine ⟨w', I1, φ1, ?_, e1.trans q2, q1, by simpa using hlen⟩
      simp only [execOp, hop, he, Sem.run_bind, w1, Result.andThen_ok, Sem.run_pure]
    split at e
    · rename_i row0 hrow0
      split at e
      · rename_i harr
        split at e
        · rename_i v hv
          split at e
          · rename_i row hrow
            split at e
            · rename_i hc
              obtain ⟨hfz, hel, hok1, hokT⟩ := hc
              split at e
              · rename_i row' hset
                simp only [Option.some.injEq] at e; subst e
                obtain ⟨I1, m1, e1, c1, s1⟩ := frz_sound hm hy
                have hsn := snap_sound hm e1.imm hy c1 hv
                have hrefs : v.refs = false := by simpa [elemOk] using hel
                exact fin I1 φ _ row row' v m1 e1 s1.1 hrow (.p (pure_of hsn hrefs (.inl hok1))) hfz hok1 (fun _ => hrefs) hokT hset
              · simp at e
            · simp at e
          · simp at e
        · simp at e
      · rename_i harr
        split at e
        · rename_i row hrow
          split at e
          · rename_i hc
            obtain ⟨hfz, harr', hel, hok1, hokT⟩ := hc
            split at e
            · rename_i row' hset
              simp only [Option.some.injEq] at e; subst e
              obtain ⟨φ1, m1, e1, r1, l1⟩ := unNil_sound (P := X.P) hm r0 off hy
              exact fin I φ1 _ row row' _ m1 e1 l1 hrow (depth_rel r1 hel hok1) hfz hok1 (fun h => by rw [harr'] at h; simp at h) hokT hset
            · simp at e
          · simp at e
        · simp at e
    · simp at e
  · simp at e
end
end Go.Ev
namespace Go.Ev
section
variable {X : Env} {I : Imm} {w : World} {φ : Phi} {m : Mem} {t : Tm} {a : Act} {o : Oper} {r : OpR}
theorem cells_width (e : V) : e.cells.length = e.width := by cases e <;> rfl
theorem lies {size b o : Nat} {es : List V} (hw : ∀ (j : Nat) (e : V), es[j]? = some e → e.width = size)
    (hc : ∀ (j : Nat) (e : V) (c : Nat) (v : V), es[j]? = some e → e.cells[c]? = some v → ∃ x, w.cell? ⟨b, o + j * size + c, none⟩ = some x ∧ x.oneCell' = true ∧ RelP I w v x) :
    ∃ news : List Value, news.length = es.length * size ∧ (∀ i u, news[i]? = some u → w.cell? ⟨b, o + i, none⟩ = some u) ∧ (∀ u ∈ news, u.oneCell' = true) ∧ ElemsOk I w size es news.toArray := by
  have key : ∀ i, i < es.length * size → ∃ x, w.cell? ⟨b, o + i, none⟩ = some x ∧ x.oneCell' = true := by
    intro i hi
    have hs : 0 < size := by
      rcases Nat.eq_zero_or_pos size with h | h
      · subst h; omega
      · exact h
    have hj : i / size < es.length := Nat.div_lt_of_lt_mul (by rw [Nat.mul_comm]; exact hi)
    have hm := Nat.div_add_mod i size
    have hlt := Nat.mod_lt i hs
    have he : es[i / size]? = some es[i / size] := by simp [hj]
    have hwd := hw _ _ he
    have hcl : i % size < (es[i / size]).cells.length := by rw [cells_width, hwd]; exact hlt
    obtain ⟨x, x1, x2, _⟩ := hc _ _ (i % size) (es[i / size]).cells[i % size] he (by simp [hcl])
    refine ⟨x, ?_, x2⟩
    rw [← x1]
    congr 2
    rw [Nat.mul_comm]; omega
  have hget : ∀ i, i < es.length * size → ((List.range (es.length * size)).map fun i => (w.cell? ⟨b, o + i, none⟩).getD Go.undef)[i]? = w.cell? ⟨b, o + i, none⟩ := by
    intro i hi
    obtain ⟨x, x1, _⟩ := key i hi
    simp [List.getElem?_range hi, x1]
  refine ⟨(List.range (es.length * size)).map fun i => (w.cell? ⟨b, o + i, none⟩).getD Go.undef, by simp, ?_, ?_, by simp, ?_⟩
  · intro i u hu
    have hi : i < es.length * size := by simpa using get_lt hu
    rw [hget i hi] at hu; exact hu
  · intro u hu
    simp only [List.mem_map, List.mem_range] at hu
    obtain ⟨i, hi, rfl⟩ := hu
    obtain ⟨x, x1, x2⟩ := key i hi
    rw [x1]; exact x2
  · intro j e hj
    refine ⟨hw j e hj, fun c v hcv => ?_⟩
    obtain ⟨x, x1, x2, x3⟩ := hc j e c v hj hcv
    refine ⟨x, ?_, x2, x3⟩
    have hjl := get_lt hj
    have hcl := cells_lt hcv
    rw [hw j e hj] at hcl
    have : (j + 1) * size ≤ es.length * size := Nat.mul_le_mul_right _ hjl
    have e1 : (j + 1) * size = j * size + size := by rw [Nat.add_mul]; omega
    have h2 := hget (j * size + c) (by omega)
    rw [← Nat.add_assoc, x1] at h2
    simpa using h2
structure SrcOk (P : Program) (I : Imm) (w : World) (size : Nat) (tx : TypeId) (xv : Value) (xs : List V) : Prop where
  mk ::
  get : ∃ news : List Value, Src P size tx xv xs.length news w ∧ news.length = xs.length * size ∧ (∀ u ∈ news, u.oneCell' = true) ∧ ElemsOk I w size xs news.toArray
theorem elemsOf_sound {P : Program} (hm : MemOk P I w φ m) {x : V} {xv : Value} {xs : List V} {size : Nat} {tx e' : TypeId} (hr : Rel P I w φ x xv) (h : elemsOf m x = some xs)
    (hw : xs.all (fun v => decide (v.width = size)) = true) (hk : P.underlying tx = some (.slice e')) : SrcOk P I w size tx xv xs := by
  have hw' : ∀ (j : Nat) (e : V), xs[j]? = some e → e.width = size := fun j e hj => by simpa using List.all_eq_true.1 hw e (List.mem_of_getElem? hj)
  have nil : ∀ (ad : Option Addr) (c : Nat), SrcOk P I w size tx (.slice ad 0 c) [] := by
    intro ad c
    refine ⟨[], ?_, by simp, by simp, by simp, fun j e hj => by simp at hj⟩
    cases ad with
    | none => exact Src.ofNil w hk c
    | some ad => exact Src.ofSlice w hk ad 0 c [] (by simp) (fun j u hu => by simp at hu) (by simp)
  have some' : ∀ (b of c : Nat), (∀ (j : Nat) (e : V) (c : Nat) (v : V), xs[j]? = some e → e.cells[c]? = some v → ∃ x, w.cell? ⟨b, of + j * size + c, none⟩ = some x ∧ x.oneCell' = true ∧ RelP I w v x) →
      SrcOk P I w size tx (.slice (some ⟨b, of, none⟩) xs.length c) xs := by
    intro b of c hc
    obtain ⟨news, n1, n2, n3, n4⟩ := lies hw' hc
    exact ⟨news, Src.ofSlice w hk ⟨b, of, none⟩ xs.length c news n1 (fun j u hu => by rw [add_off]; exact n2 j u hu) n3, n1, n3, n4⟩
  cases x with
  | sl es =>
    simp only [elemsOf, Option.some.injEq] at h; subst h
    obtain ⟨ad, cap, rfl, hcap, hes⟩ := rel_sl hr
    rcases hes with rfl | ⟨b, of, z, ys, rfl, g1, g2, g3⟩
    · exact nil ad cap
    · refine some' b of cap (fun j e c v hj hcv => ?_)
      have : z = size := by rw [← g1 j e hj, hw' j e hj]
      subst this
      obtain ⟨k1, _, k3⟩ := g2 j e c v hj hcv
      exact ⟨_, k1, k3, g3 j e c v hj hcv⟩
  | nilS =>
    simp only [elemsOf, Option.some.injEq] at h; subst h
    rw [rel_nilS hr]
    exact nil none 0
  | rs r0 rty off len =>
    simp only [elemsOf] at h
    split at h
    · rename_i row hrow
      split at h
      · rename_i hc
        simp only [Option.some.injEq] at h; subst h
        have hlen := cut_length row.es off len hc.2
        rcases rel_rs hr with ⟨hl, rfl, rfl, rfl⟩ | ⟨l, hl, hcap, hz, rfl⟩ | ⟨l, ad, hl, hoff, rfl, rfl⟩
        · have : cut row.es 0 0 = [] := by simp [cut]
          rw [this]; exact nil none 0
        · obtain ⟨l', hl', hok⟩ := hm.live r0 row hrow (hm.zero r0 (by rw [hl]; simp))
          rw [hl] at hl'
          have := Option.some.inj hl'
          subst this
          obtain ⟨_, _, _, _, k5, k6, _, _⟩ := hok
          have hk6 : ∀ (j : Nat) (e : V) (c : Nat) (v : V), (cut row.es off len)[j]? = some e → e.cells[c]? = some v → ∃ x, w.cell? ⟨l.b, l.base + off * l.z + j * size + c, none⟩ = some x ∧ x.oneCell' = true ∧ RelP I w v x := by
            intro j e c v hj hcv
            obtain ⟨hj', _⟩ := cut_get _ _ _ _ _ hj
            obtain ⟨x, x1, x2, x3⟩ := k6 _ e c v hj' hcv
            rw [if_pos hc.1] at x3
            have hsz : l.z = size := by rw [← k5 _ e hj', hw' j e hj]
            refine ⟨x, ?_, x2, x3⟩
            rw [← hsz, show l.base + off * l.z + j * l.z + c = l.base + (off + j) * l.z + c by rw [Nat.add_mul]; omega]
            exact x1
          have := some' l.b (l.base + off * l.z) (l.cap - off) hk6
          rw [hlen] at this
          exact this
        · have : cut row.es off 0 = [] := by simp [cut]
          rw [this]; exact nil ad 0
      · simp at h
    · simp at h
  | _ => simp [elemsOf] at h
theorem bytes_src {P : Program} (s : List UInt8) {tx : TypeId} (hk : P.underlying tx = some .string) : SrcOk P I w 1 tx (.string ⟨s.toArray⟩) (s.map fun c => V.int .u8 c.toNat) := by
  have hb : byteCells ⟨s.toArray⟩ = s.map fun c => Value.int .u8 c.toNat := by simp [byteCells]
  have hsz : (⟨s.toArray⟩ : ByteArray).size = s.length := by simp [ByteArray.size]
  refine ⟨byteCells ⟨s.toArray⟩, ?_, ?_, ?_, ?_⟩
  · have := Src.ofString (P := P) w hk ⟨s.toArray⟩
    rw [hsz] at this
    simpa using this
  · rw [byteCells_length, hsz]; simp
  · intro u hu
    rw [hb] at hu
    obtain ⟨c, _, rfl⟩ := List.mem_map.1 hu
    rfl
  · rw [hb]
    refine ⟨by simp, fun j e hj => ?_⟩
    simp only [List.getElem?_map, Option.map_eq_some_iff] at hj
    obtain ⟨c, hc, rfl⟩ := hj
    refine ⟨rfl, fun k v hk => ?_⟩
    cases k with
    | succ k => simp [V.cells] at hk
    | zero =>
      simp [V.cells] at hk; subst hk
      exact ⟨.int .u8 c.toNat, by simp [hc], rfl, .int _ _⟩
theorem elems_append {size : Nat} {xs ys : List V} {A B : List Value} (hA : ElemsOk I w size xs A.toArray) (hB : ElemsOk I w size ys B.toArray) (hl : A.length = xs.length * size) (C : Array Value) :
    ElemsOk I w size (xs ++ ys) ((A ++ B).toArray ++ C) := by
  refine ⟨?_, fun j e hj => ?_⟩
  · have := hB.1
    simp only [List.length_append, Array.size_append, List.size_toArray, Nat.add_mul] at this ⊢
    omega
  · rcases Nat.lt_or_ge j xs.length with h | h
    · rw [List.getElem?_append_left h] at hj
      obtain ⟨k1, k2⟩ := hA.2 j e hj
      refine ⟨k1, fun c v hcv => ?_⟩
      obtain ⟨x, x1, x2, x3⟩ := k2 c v hcv
      refine ⟨x, ?_, x2, x3⟩
      simp only [List.getElem?_toArray] at x1
      have hlt := get_lt x1
      rw [Array.getElem?_append_left (by simp; omega)]
      simp only [List.getElem?_toArray]
      rw [List.getElem?_append_left hlt]; exact x1
    · rw [List.getElem?_append_right h] at hj
      obtain ⟨k1, k2⟩ := hB.2 _ e hj
      refine ⟨k1, fun c v hcv => ?_⟩
      obtain ⟨x, x1, x2, x3⟩ := k2 c v hcv
      refine ⟨x, ?_, x2, x3⟩
      simp only [List.getElem?_toArray] at x1
      have hlt := get_lt x1
      have e1 : j * size + c = A.length + ((j - xs.length) * size + c) := by
        rw [hl, ← Nat.add_assoc, ← Nat.add_mul]; congr 2; omega
      rw [e1, Array.getElem?_append_left (by simp; omega)]
      simp only [List.getElem?_toArray]
      rw [List.getElem?_append_right (by omega)]
      simpa using x1
theorem append_args {P : Program} {tys : Array TypeId} {t0 tx : TypeId} (h0 : tys[0]? = some t0) (h1 : tys[1]? = some tx) (ty : TypeId) (args : Array Value) :
    Builtin.append_ tys ty args = Builtin.append_ #[t0, tx] ty args := by
  unfold Builtin.append_
  simp only [h0, h1]
  rfl
end
end Go.Ev
namespace Go.Ev
section
variable {X : Env} {I : Imm} {w : World} {φ : Phi} {m : Mem} {t : Tm} {a : Act} {o : Oper} {r : OpR}
theorem zero_info {P : Program} {ty : TypeId} (h : (zeroOf P ty).isSome = true) : ∃ i z, P.info? ty = some i ∧ i.zero = some z ∧ ty ≠ 0 ∧ i.size = P.cellsOf ty ∧ i.bytes = P.bytesOf ty ∧ z.cells.size = P.cellsOf ty := by
  obtain ⟨v, hv⟩ := Option.isSome_iff_exists.1 h
  unfold zeroOf at hv
  cases hi : P.info? ty with
  | none => simp [hi] at hv
  | some i =>
    cases hz : i.zero with
    | none => simp [hi, hz] at hv
    | some z =>
      simp only [hi, hz, Option.bind_some] at hv
      split at hv
      · rename_i hc
        refine ⟨i, z, rfl, hz, hc.1, by simp [Program.cellsOf, hi], by simp [Program.bytesOf, hi], ?_⟩
        have w0 : World := default
        have := (rel_cells (P := P) (I := fun _ _ => False) (w := w0) (φ := fun _ => none) (.p (relP_ofValue z)) hc.2.1).2.2
        rw [this, hc.2.2.2]
      · simp at hv
theorem app_grow {P : Program} (hm : MemOk P I w φ m) (hold : ∀ b o, I b o → b < w.heap.size) {d s i : Nat} {rows : Rows} (hr : m.rows d = some rows) {t0 tx ty ty' : TypeId} (hu : P.underlying t0 = some (.slice ty))
    (hz : (zeroOf P ty).isSome = true) {base : Option Addr} {cap : Nat} {es0 : List V} {olds : List Value} (hfc : (Builtin.firstCells (P.cellsOf ty) es0.length (.slice base es0.length cap)).run P w.drew = .ok olds.toArray w.drew)
    (ho1 : ElemsOk I w (P.cellsOf ty) es0 olds.toArray) (ho2 : olds.length = es0.length * P.cellsOf ty) {xs : List V} {xv : Value} (hs : SrcOk P I w (P.cellsOf ty) tx xv xs)
    (hgrow : cap < es0.length + xs.length) (hbig : (es0.length + xs.length) * (P.bytesOf ty + P.cellsOf ty + 1) ≤ Ev.maxLen) :
    ∃ y w' φ', (Builtin.append_ #[t0, tx] ty' #[.slice base es0.length cap, xv]).run P w = .ok y w' ∧
      MemOk P I w' φ' (m.set d s i { g := (rows.get s i).g + 1, ty, arr := true, fz := false, es := es0 ++ xs }) ∧ Ext I w φ I w' φ' ∧
      Rel P I w' φ' (.rs ⟨d, s, i, (rows.get s i).g + 1⟩ ty 0 (es0.length + xs.length)) y := by
  obtain ⟨ie, z, hie, hiz, h0, hsz, hby, hzc⟩ := zero_info hz
  obtain ⟨news, n1, n2, n3, n4⟩ := hs.get
  have hb : (es0.length + xs.length) * (P.bytesOf ty + P.cellsOf ty + 1) ≤ 1099511627776 := hbig
  have hb1 : es0.length + xs.length ≤ 1099511627776 := Nat.le_trans (Nat.le_mul_of_pos_right _ (by omega)) hb
  have hb2 : (es0.length + xs.length) * P.bytesOf ty ≤ 1099511627776 := Nat.le_trans (Nat.mul_le_mul_left _ (by omega)) hb
  have hrun := run_append_grow_src (P := P) w t0 tx ty' ty ie z hu hie hiz base es0.length cap olds (by rw [hsz]; exact hfc) xv xs.length news (by rw [hsz]; exact n1) hgrow (by omega)
    (growslice_fits hgrow (by rw [hby]; omega))
  have hge := grownCap_ge w (es0.length + xs.length) cap ty
  obtain ⟨m1, e1⟩ := step_drew (P := P) hm
  have hE : ElemsOk I w.drew (P.cellsOf ty) (es0 ++ xs) ((olds ++ news).toArray ++ Builtin.zeroCells z.cells (grownCap w (es0.length + xs.length) cap ty - (es0.length + xs.length))) :=
    elems_append (w := w.drew) ⟨ho1.1, fun j e hj => ⟨(ho1.2 j e hj).1, fun c v hc => by
      obtain ⟨x, x1, x2, x3⟩ := (ho1.2 j e hj).2 c v hc
      exact ⟨x, x1, x2, x3.ext e1⟩⟩⟩ ⟨n4.1, fun j e hj => ⟨(n4.2 j e hj).1, fun c v hc => by
      obtain ⟨x, x1, x2, x3⟩ := (n4.2 j e hj).2 c v hc
      exact ⟨x, x1, x2, x3.ext e1⟩⟩⟩ ho2 _
  have hsize : grownCap w (es0.length + xs.length) cap ty * P.cellsOf ty ≤ ((olds ++ news).toArray ++ Builtin.zeroCells z.cells (grownCap w (es0.length + xs.length) cap ty - (es0.length + xs.length))).size := by
    have hzs : (Builtin.zeroCells z.cells (grownCap w (es0.length + xs.length) cap ty - (es0.length + xs.length))).size = (grownCap w (es0.length + xs.length) cap ty - (es0.length + xs.length)) * P.cellsOf ty := by
      simp [Builtin.zeroCells, hzc]
    rw [Array.size_append, hzs]
    simp only [List.size_toArray, List.length_append, ho2, n2]
    rw [← Nat.add_mul, ← Nat.add_mul]
    exact Nat.mul_le_mul_right _ (by omega)
  have hheap : w.drew.heap.size = w.heap.size := rfl
  obtain ⟨m2, e2⟩ := step_newAt (I := I) (w := w.drew) m1 d s i hr ty true (es0 ++ xs) _ ty (P.cellsOf ty) (grownCap w (es0.length + xs.length) cap ty) (by simpa using hge) rfl h0 hsize
    (fun j e hj => (hE.2 j e hj).1)
    (fun j e c u hj hc => by
      obtain ⟨x, x1, x2, x3⟩ := (hE.2 j e hj).2 c u hc
      exact ⟨x, x1, x2, by simpa using x3⟩)
    (fun o ho => by have := hold _ _ ho; rw [hheap] at this; omega)
  refine ⟨_, _, _, hrun, m2, e1.trans e2, ?_⟩
  have := Rel.rs (P := P) (I := I) (w := w.drew.alloc (.cells ((olds ++ news).toArray ++ Builtin.zeroCells z.cells (grownCap w (es0.length + xs.length) cap ty - (es0.length + xs.length))) ty))
    (φ := φ.put ⟨d, s, i, (rows.get s i).g + 1⟩ (some ⟨w.drew.heap.size, 0, P.cellsOf ty, grownCap w (es0.length + xs.length) cap ty⟩)) (r := ⟨d, s, i, (rows.get s i).g + 1⟩) (ty := ty) (off := 0) (len := es0.length + xs.length)
    (l := ⟨w.drew.heap.size, 0, P.cellsOf ty, grownCap w (es0.length + xs.length) cap ty⟩) (Phi.put_same _ _ _) (by simpa using hge) rfl
  simpa using this
theorem app_nil {P : Program} (hm : MemOk P I w φ m) (hold : ∀ b o, I b o → b < w.heap.size) {d s i : Nat} {rows : Rows} (hr : m.rows d = some rows) {t0 tx ty ty' : TypeId} (hu : P.underlying t0 = some (.slice ty))
    (hz : (zeroOf P ty).isSome = true) {xs : List V} {xv : Value} (hs : SrcOk P I w (P.cellsOf ty) tx xv xs) (hbig : xs.length * (P.bytesOf ty + P.cellsOf ty + 1) ≤ Ev.maxLen) :
    ∃ y w' φ', (Builtin.append_ #[t0, tx] ty' #[.slice none 0 0, xv]).run P w = .ok y w' ∧
      MemOk P I w' φ' (m.set d s i { g := (rows.get s i).g + 1, ty, arr := true, fz := false, es := xs }) ∧ Ext I w φ I w' φ' ∧
      Rel P I w' φ' (.rs ⟨d, s, i, (rows.get s i).g + 1⟩ ty 0 xs.length) y := by
  cases xs with
  | nil =>
    obtain ⟨ie, z, hie, hiz, h0, hsz, hby, hzc⟩ := zero_info hz
    obtain ⟨news, n1, n2, n3, n4⟩ := hs.get
    have hnil : news = [] := by simpa using n2
    subst hnil
    obtain ⟨m1, e1⟩ := step_newNilAt (P := P) hm d s i hr ty
    refine ⟨_, _, _, run_append_nothing (P := P) w t0 tx ty' ty ie hu hie none 0 0 (Nat.le_refl _) xv (by rw [hsz]; exact n1), m1, e1, ?_⟩
    exact .rsNil (Phi.put_same _ _ _)
  | cons x0 xs0 =>
    have := app_grow (P := P) (ty' := ty') hm hold hr (s := s) (i := i) hu hz (base := none) (cap := 0) (es0 := []) (olds := []) (run_firstCells_none _ _ _ _ _) ⟨by simp, fun j e hj => by simp at hj⟩ (by simp) hs (by simp) (by simpa using hbig)
    simpa using this
theorem app_room {P : Program} (hm : MemOk P I w φ m) {r : Ref} {row : Row} {l : Loc} (hrow : m.row r = some row) (hl : φ r = some (some l)) (hfz : row.fz = false) (ha : row.arr = true)
    {t0 tx ty ty' : TypeId} (hu : P.underlying t0 = some (.slice ty)) (hz : (zeroOf P ty).isSome = true) (hty : row.ty = ty) {off len : Nat} (hlen : off + len ≤ row.es.length)
    {xs : List V} {xv : Value} (hs : SrcOk P I w (P.cellsOf ty) tx xv xs) (hroom : len + xs.length ≤ l.cap - off) :
    ∃ y w' φ', (Builtin.append_ #[t0, tx] ty' #[.slice (some ⟨l.b, l.base + off * l.z, none⟩) len (l.cap - off), xv]).run P w = .ok y w' ∧
      MemOk P I w' φ' (m.set r.d r.s r.i { row with g := row.g + 1, ty, es := cut row.es off len ++ xs }) ∧ Ext I w φ I w' φ' ∧
      Rel P I w' φ' (.rs { r with g := row.g + 1 } ty 0 (len + xs.length)) y := by
  obtain ⟨l', hl', hok⟩ := hm.live r row hrow (hm.zero r (by rw [hl]; simp))
  rw [hl] at hl'
  have := Option.some.inj hl'
  subst this
  obtain ⟨h1, h2, h3, ⟨cs, tt, h4, h4'⟩, h5, h6, h7, h8⟩ := hok
  obtain ⟨ie, z, hie, hiz, h0, hsz, hby, hzc⟩ := zero_info hz
  obtain ⟨news, n1, n2, n3, n4⟩ := hs.get
  have hz' : l.z = P.cellsOf ty := by rw [h2, hty]
  rw [← hz'] at n2 n4
  have hcl := cut_length row.es off len hlen
  have hcap1 : off + (len + xs.length) ≤ l.cap := by omega
  have hmul : (off + (len + xs.length)) * l.z ≤ l.cap * l.z := Nat.mul_le_mul_right _ hcap1
  have hexp : (off + (len + xs.length)) * l.z = off * l.z + len * l.z + xs.length * l.z := by rw [Nat.add_mul, Nat.add_mul]; omega
  have hI : ∀ o, l.base ≤ o → ¬ I l.b o := fun o ho => h7 o ho (fun hf => by rw [hfz] at hf; simp at hf)
  have hcell : ∀ b o x, I b o → w.cell? ⟨b, o, none⟩ = some x → (w.setCells l.b (l.base + off * l.z + len * l.z) news).cell? ⟨b, o, none⟩ = some x := by
    intro b o x hi hx
    rw [World.cell?_setCells_out, hx]
    intro hb _
    simp only at hb ⊢
    subst hb
    have : ¬ l.base ≤ o := fun ho => hI o ho hi
    left; omega
  have hrun := run_append_room_src (P := P) w t0 tx ty' ty ie hu hie l.b (l.base + off * l.z) len (l.cap - off) xv xs.length news (by rw [hsz]; exact n1) hroom
    (fun j hj => by rw [cell_of_heap h4, hsz, ← hz']; simp; omega) (fun j hj => frozen_of_heap h4 _)
  rw [hsz, ← hz'] at hrun
  have hgn : r.g = row.g := ((Mem.row_eq _ _ _).1 hrow).choose_spec.2.2.symm
  obtain ⟨cs', c1, c2⟩ := setCells_same l.b news (l.base + off * l.z + len * l.z) w cs tt (0, 0) h4
  have hnew : RowOk P I (w.setCells l.b (l.base + off * l.z + len * l.z) news) ((φ.put { r with g := row.g + 1 } (some ⟨l.b, l.base + off * l.z, l.z, l.cap - off⟩)).upto r.d)
      { row with g := row.g + 1, ty, es := cut row.es off len ++ xs } (some ⟨l.b, l.base + off * l.z, l.z, l.cap - off⟩) := by
    refine ⟨by simp only [List.length_append, hcl]; omega, hz', h0, ⟨cs', tt, c1, ?_⟩, ?_, ?_, ?_, ?_⟩
    · simp only
      rw [c2]
      have : off * l.z + (l.cap - off) * l.z = l.cap * l.z := by rw [← Nat.add_mul]; congr 1; omega
      omega
    · intro j e hj
      simp only at hj ⊢
      rcases Nat.lt_or_ge j (cut row.es off len).length with h | h
      · rw [List.getElem?_append_left h] at hj
        exact h5 _ e (cut_get _ _ _ _ _ hj).1
      · rw [List.getElem?_append_right h] at hj
        exact (n4.2 _ e hj).1
    · intro j e c v hj hcv
      simp only at hj
      simp only [ha, if_true]
      rcases Nat.lt_or_ge j (cut row.es off len).length with h | h
      · rw [List.getElem?_append_left h] at hj
        obtain ⟨hj', hjl⟩ := cut_get _ _ _ _ _ hj
        obtain ⟨x, x1, x2, x3⟩ := h6 _ e c v hj' hcv
        rw [if_pos ha] at x3
        have hcl' := cells_lt hcv
        rw [h5 _ e hj'] at hcl'
        refine ⟨x, ?_, x2, x3.mono (fun _ _ h => h) hcell⟩
        rw [World.cell?_setCells_out]
        · rw [show l.base + off * l.z + j * l.z + c = l.base + (off + j) * l.z + c by rw [Nat.add_mul]; omega]
          exact x1
        · intro _ _
          simp only
          have : (j + 1) * l.z ≤ len * l.z := Nat.mul_le_mul_right _ hjl
          have : (j + 1) * l.z = j * l.z + l.z := by rw [Nat.add_mul]; omega
          left; omega
      · rw [List.getElem?_append_right h] at hj
        obtain ⟨k1, k2⟩ := n4.2 _ e hj
        obtain ⟨x, x1, x2, x3⟩ := k2 c v hcv
        refine ⟨x, ?_, x2, x3.mono (fun _ _ h => h) hcell⟩
        simp only [List.getElem?_toArray] at x1
        have hlt := get_lt x1
        have := World.cell?_setCells_in l.b news (l.base + off * l.z + len * l.z) w (fun i hi => by rw [cell_of_heap h4]; simp; omega) _ hlt
        rw [List.getElem?_eq_getElem hlt] at x1
        have e2 : l.base + off * l.z + j * l.z + c = l.base + off * l.z + len * l.z + ((j - (cut row.es off len).length) * l.z + c) := by
          rw [hcl] at h ⊢
          have : j * l.z = len * l.z + (j - len) * l.z := by rw [← Nat.add_mul]; congr 1; omega
          omega
        rw [e2, this]
        exact x1
    · intro o ho hf
      simp only at ho
      exact hI o (by omega)
    · intro hf
      simp only at hf
      rw [hfz] at hf
      simp at hf
  have hpl : PlainAt (w.setCells l.b (l.base + off * l.z + len * l.z) news) l.b := by
    intro x hx
    rw [c1] at hx
    exact ⟨cs', tt, (Option.some.inj hx).symm⟩
  have hs := setCells_os l.b news (l.base + off * l.z + len * l.z) w
  obtain ⟨q1, q2⟩ := step_rewrite (P := P) (l' := ⟨l.b, l.base + off * l.z, l.z, l.cap - off⟩) hm hrow hl hcell (fun b hb => setCells_ne _ _ _ _ _ hb) (setCells_size _ _ _ _) hs.1 hs.2.1 hs.2.2 hpl rfl
    (.inr ⟨rfl, rfl⟩) hnew
  refine ⟨_, _, _, hrun, q1, q2, ?_⟩
  have := Rel.rs (P := P) (I := I) (w := w.setCells l.b (l.base + off * l.z + len * l.z) news) (φ := φ.put { r with g := row.g + 1 } (some ⟨l.b, l.base + off * l.z, l.z, l.cap - off⟩)) (r := { r with g := row.g + 1 }) (ty := ty) (off := 0)
    (len := len + xs.length) (l := ⟨l.b, l.base + off * l.z, l.z, l.cap - off⟩) (Phi.put_same _ _ _) (by simpa using hroom) hz'
  simpa using this
theorem app_roomF {P : Program} (hm : MemOk P I w φ m) {r : Ref} {row : Row} {l : Loc} (hrow : m.row r = some row) (hl : φ r = some (some l)) (hfz : row.fz = true) (ha : row.arr = true)
    {t0 tx ty ty' : TypeId} (hu : P.underlying t0 = some (.slice ty)) (hz : (zeroOf P ty).isSome = true) (hty : row.ty = ty) {off len : Nat} (hlen : off + len ≤ row.es.length) (hend : off + len = row.es.length)
    {xs : List V} {xv : Value} (hs : SrcOk P I w (P.cellsOf ty) tx xv xs) (hroom : len + xs.length ≤ l.cap - off) :
    ∃ y w' φ' I', (Builtin.append_ #[t0, tx] ty' #[.slice (some ⟨l.b, l.base + off * l.z, none⟩) len (l.cap - off), xv]).run P w = .ok y w' ∧
      MemOk P I' w' φ' (m.set r.d r.s r.i { row with g := row.g + 1, ty, es := cut row.es off len ++ xs }) ∧ Ext I w φ I' w' φ' ∧
      Rel P I' w' φ' (.rs { r with g := row.g + 1 } ty 0 (len + xs.length)) y := by
  obtain ⟨l', hl', hok⟩ := hm.live r row hrow (hm.zero r (by rw [hl]; simp))
  rw [hl] at hl'
  have := Option.some.inj hl'
  subst this
  obtain ⟨h1, h2, h3, ⟨cs, tt, h4, h4'⟩, h5, h6, h7, h8⟩ := hok
  obtain ⟨ie, z, hie, hiz, h0, hsz, hby, hzc⟩ := zero_info hz
  obtain ⟨news, n1, n2, n3, n4⟩ := hs.get
  have hz' : l.z = P.cellsOf ty := by rw [h2, hty]
  rw [← hz'] at n2 n4
  have hcl := cut_length row.es off len hlen
  have hcap1 : off + (len + xs.length) ≤ l.cap := by omega
  have hmul : (off + (len + xs.length)) * l.z ≤ l.cap * l.z := Nat.mul_le_mul_right _ hcap1
  have hexp : (off + (len + xs.length)) * l.z = off * l.z + len * l.z + xs.length * l.z := by rw [Nat.add_mul, Nat.add_mul]; omega
  have hI : ∀ o, l.base + row.es.length * l.z ≤ o → ¬ I l.b o := fun o ho => h7 o (by omega) (fun _ => ho)
  have hendz : row.es.length * l.z = off * l.z + len * l.z := by rw [← hend, Nat.add_mul]
  have hcell : ∀ b o x, I b o → w.cell? ⟨b, o, none⟩ = some x → (w.setCells l.b (l.base + off * l.z + len * l.z) news).cell? ⟨b, o, none⟩ = some x := by
    intro b o x hi hx
    rw [World.cell?_setCells_out, hx]
    intro hb _
    simp only at hb ⊢
    subst hb
    have : ¬ l.base + row.es.length * l.z ≤ o := fun ho => hI o ho hi
    left; omega
  have hrun := run_append_room_src (P := P) w t0 tx ty' ty ie hu hie l.b (l.base + off * l.z) len (l.cap - off) xv xs.length news (by rw [hsz]; exact n1) hroom
    (fun j hj => by rw [cell_of_heap h4, hsz, ← hz']; simp; omega) (fun j hj => frozen_of_heap h4 _)
  rw [hsz, ← hz'] at hrun
  have hgn : r.g = row.g := ((Mem.row_eq _ _ _).1 hrow).choose_spec.2.2.symm
  obtain ⟨cs', c1, c2⟩ := setCells_same l.b news (l.base + off * l.z + len * l.z) w cs tt (0, 0) h4
  have hII : ∀ b o, I b o → ImmRow I ⟨l.b, l.base + off * l.z, l.z, l.cap - off⟩ (len + xs.length) b o := fun _ _ h => .inl h
  have hnew : RowOk P (ImmRow I ⟨l.b, l.base + off * l.z, l.z, l.cap - off⟩ (len + xs.length)) (w.setCells l.b (l.base + off * l.z + len * l.z) news) ((φ.put { r with g := row.g + 1 } (some ⟨l.b, l.base + off * l.z, l.z, l.cap - off⟩)).upto r.d)
      { row with g := row.g + 1, ty, es := cut row.es off len ++ xs } (some ⟨l.b, l.base + off * l.z, l.z, l.cap - off⟩) := by
    refine ⟨by simp only [List.length_append, hcl]; omega, hz', h0, ⟨cs', tt, c1, ?_⟩, ?_, ?_, ?_, ?_⟩
    · simp only
      rw [c2]
      have : off * l.z + (l.cap - off) * l.z = l.cap * l.z := by rw [← Nat.add_mul]; congr 1; omega
      omega
    · intro j e hj
      simp only at hj ⊢
      rcases Nat.lt_or_ge j (cut row.es off len).length with h | h
      · rw [List.getElem?_append_left h] at hj
        exact h5 _ e (cut_get _ _ _ _ _ hj).1
      · rw [List.getElem?_append_right h] at hj
        exact (n4.2 _ e hj).1
    · intro j e c v hj hcv
      simp only at hj
      simp only [ha, if_true]
      rcases Nat.lt_or_ge j (cut row.es off len).length with h | h
      · rw [List.getElem?_append_left h] at hj
        obtain ⟨hj', hjl⟩ := cut_get _ _ _ _ _ hj
        obtain ⟨x, x1, x2, x3⟩ := h6 _ e c v hj' hcv
        rw [if_pos ha] at x3
        have hcl' := cells_lt hcv
        rw [h5 _ e hj'] at hcl'
        refine ⟨x, ?_, x2, x3.mono hII hcell⟩
        rw [World.cell?_setCells_out]
        · rw [show l.base + off * l.z + j * l.z + c = l.base + (off + j) * l.z + c by rw [Nat.add_mul]; omega]
          exact x1
        · intro _ _
          simp only
          have : (j + 1) * l.z ≤ len * l.z := Nat.mul_le_mul_right _ hjl
          have : (j + 1) * l.z = j * l.z + l.z := by rw [Nat.add_mul]; omega
          left; omega
      · rw [List.getElem?_append_right h] at hj
        obtain ⟨k1, k2⟩ := n4.2 _ e hj
        obtain ⟨x, x1, x2, x3⟩ := k2 c v hcv
        refine ⟨x, ?_, x2, x3.mono hII hcell⟩
        simp only [List.getElem?_toArray] at x1
        have hlt := get_lt x1
        have := World.cell?_setCells_in l.b news (l.base + off * l.z + len * l.z) w (fun i hi => by rw [cell_of_heap h4]; simp; omega) _ hlt
        rw [List.getElem?_eq_getElem hlt] at x1
        have e2 : l.base + off * l.z + j * l.z + c = l.base + off * l.z + len * l.z + ((j - (cut row.es off len).length) * l.z + c) := by
          rw [hcl] at h ⊢
          have : j * l.z = len * l.z + (j - len) * l.z := by rw [← Nat.add_mul]; congr 1; omega
          omega
        rw [e2, this]
        exact x1
    · intro o ho hf hc
      have hlen2 : (cut row.es off len ++ xs).length * l.z = len * l.z + xs.length * l.z := by rw [List.length_append, hcl, Nat.add_mul]
      have h9 := hf hfz
      simp only [hlen2] at h9
      simp only at ho
      rcases hc with hc | ⟨_, _, hc⟩
      · exact hI o (by omega) hc
      · simp only [Nat.add_mul] at hc
        omega
    · intro hf
      refine ⟨ha, fun o b1 b2 => .inr ⟨rfl, b1, ?_⟩⟩
      simp only [List.length_append, hcl] at b2
      exact b2
  have hpl : PlainAt (w.setCells l.b (l.base + off * l.z + len * l.z) news) l.b := by
    intro x hx
    rw [c1] at hx
    exact ⟨cs', tt, (Option.some.inj hx).symm⟩
  have hs := setCells_os l.b news (l.base + off * l.z + len * l.z) w
  obtain ⟨q1, q2⟩ := step_rewriteI (P := P) (I' := ImmRow I ⟨l.b, l.base + off * l.z, l.z, l.cap - off⟩ (len + xs.length)) (l' := ⟨l.b, l.base + off * l.z, l.z, l.cap - off⟩) hm hrow hl hcell (fun b hb => setCells_ne _ _ _ _ _ hb) (setCells_size _ _ _ _) hs.1 hs.2.1 hs.2.2 hII (fun b o h => h.elim .inl (fun h => .inr h.1)) rfl
    (.inr ⟨rfl, rfl⟩) hnew
  refine ⟨_, _, _, _, hrun, q1, q2, ?_⟩
  have := Rel.rs (P := P) (I := ImmRow I ⟨l.b, l.base + off * l.z, l.z, l.cap - off⟩ (len + xs.length)) (w := w.setCells l.b (l.base + off * l.z + len * l.z) news) (φ := φ.put { r with g := row.g + 1 } (some ⟨l.b, l.base + off * l.z, l.z, l.cap - off⟩)) (r := { r with g := row.g + 1 }) (ty := ty) (off := 0)
    (len := len + xs.length) (l := ⟨l.b, l.base + off * l.z, l.z, l.cap - off⟩) (Phi.put_same _ _ _) (by simpa using hroom) hz'
  simpa using this
theorem appendTo_sound {s : V} {sv xv : Value} {xs : List V} {dst : Nat} {t0 tx ty ty' : TypeId} {p : V × Mem} (hm : MemOk X.P I w φ m) (hold : ∀ b o, I b o → b < w.heap.size) (hsr : Rel X.P I w φ s sv)
    (hu : X.P.underlying t0 = some (.slice ty)) (hsrc : xs.all (fun v => decide (v.width = X.P.cellsOf ty)) = true → SrcOk X.P I w (X.P.cellsOf ty) tx xv xs) (e : appendTo X m dst ty s xs = some p) :
    ∃ y w' φ' I', (Builtin.append_ #[t0, tx] ty' #[sv, xv]).run X.P w = .ok y w' ∧ MemOk X.P I' w' φ' p.2 ∧ Ext I w φ I' w' φ' ∧ Rel X.P I' w' φ' p.1 y ∧ p.2.out.length = m.out.length := by
  unfold appendTo at e
  split at e
  · rename_i r0 rty off len
    split at e
    · rename_i row hrow
      split at e
      · rename_i hc
        obtain ⟨hfz0, ha, hz, hw, hbig, hty, hlen, hoff⟩ := hc
        simp only [Option.some.injEq] at e; subst e
        have hs := hsrc hw
        obtain ⟨rows, hr1, hr2, hr3⟩ := (Mem.row_eq _ _ _).1 hrow
        have fin : ∀ (y : Value) (w' : World) (φ' : Phi) (es' : List V), MemOk X.P I w' φ' (m.set r0.d r0.s r0.i { g := row.g + 1, ty, arr := true, fz := false, es := es' }) → Ext I w φ I w' φ' → Rel X.P I w' φ' (.rs { r0 with g := row.g + 1 } ty 0 (len + xs.length)) y →
            ∃ I', MemOk X.P I' w' φ' (m.set r0.d r0.s r0.i { row with g := row.g + 1, ty, es := es' }) ∧ Ext I w φ I' w' φ' ∧ Rel X.P I' w' φ' (.rs { r0 with g := row.g + 1 } ty 0 (len + xs.length)) y := by
          intro y w' φ' es' q2 q3 q4
          rcases Bool.eq_false_or_eq_true row.fz with hfr | hfr
          rotate_left
          · have e2 : ({ row with g := row.g + 1, ty, es := es' } : Row) = { g := row.g + 1, ty, arr := true, fz := false, es := es' } := by rw [hfr, ha]
            exact ⟨I, by rw [e2]; exact q2, q3, q4⟩
          · obtain ⟨I', k1, k2⟩ := freeze_set q2 hr1 rfl (by simp)
            have e2 : ({ row with g := row.g + 1, ty, es := es' } : Row) = { g := row.g + 1, ty, arr := true, fz := true, es := es' } := by rw [hfr, ha]
            exact ⟨I', by rw [e2]; exact k1, q3.trans k2, q4.ext k2⟩
        rcases rel_rs hsr with ⟨hl, rfl, rfl, rfl⟩ | ⟨l, hl, hcap, hzc, rfl⟩ | ⟨l, ad, hl, hoff', rfl, rfl⟩
        · have hnil : cut row.es 0 0 = [] := by simp [cut]
          obtain ⟨y, w', φ', q1, q2, q3, q4⟩ := app_nil (P := X.P) (ty' := ty') hm hold (s := r0.s) (i := r0.i) hr1 hu hz hs (by simpa using hbig)
          rw [hr2] at q2 q4
          obtain ⟨I', k1, k2, k3⟩ := fin y w' φ' xs q2 q3 (by simpa using q4)
          refine ⟨y, w', φ', I', q1, ?_, k2, k3, by simp⟩
          simp only [hnil, List.nil_append]
          exact k1
        · have hg0 := hm.zero r0 (by rw [hl]; simp)
          obtain ⟨l', hl', hok⟩ := hm.live r0 row hrow hg0
          rw [hl] at hl'
          have := Option.some.inj hl'
          subst this
          have htyr : row.ty = ty := by
            rcases hty with h | ⟨h, _⟩
            · exact h
            · exact absurd h hok.2.2.1
          by_cases hroom : len + xs.length ≤ l.cap - off
          · rcases Bool.eq_false_or_eq_true row.fz with hfr | hfr
            rotate_left
            · obtain ⟨y, w', φ', q1, q2, q3, q4⟩ := app_room (P := X.P) (ty' := ty') hm hrow hl hfr ha hu hz htyr hlen hs hroom
              exact ⟨y, w', φ', I, q1, q2, q3, q4, by simp⟩
            · have hend : off + len = row.es.length := by
                rcases hfz0 with h | h
                · rw [hfr] at h; simp at h
                · exact h
              obtain ⟨y, w', φ', I', q1, q2, q3, q4⟩ := app_roomF (P := X.P) (ty' := ty') hm hrow hl hfr ha hu hz htyr hlen hend hs hroom
              exact ⟨y, w', φ', I', q1, q2, q3, q4, by simp⟩
          · have hz' : l.z = X.P.cellsOf ty := by rw [hok.2.1, htyr]
            obtain ⟨h1, h2, h3, h4, h5, h6, h7, h8⟩ := hok
            have hcl := cut_length row.es off len hlen
            obtain ⟨olds, o1, o2, o3, o4⟩ := lies (I := I) (w := w) (size := X.P.cellsOf ty) (b := l.b) (o := l.base + off * l.z) (es := cut row.es off len) (fun j e hj => by rw [h5 _ e (cut_get _ _ _ _ _ hj).1, hz'])
              (fun j e c v hj hcv => by
                obtain ⟨hj', _⟩ := cut_get _ _ _ _ _ hj
                obtain ⟨x, x1, x2, x3⟩ := h6 _ e c v hj' hcv
                rw [if_pos ha] at x3
                refine ⟨x, ?_, x2, x3⟩
                rw [← hz', show l.base + off * l.z + j * l.z + c = l.base + (off + j) * l.z + c by rw [Nat.add_mul]; omega]
                exact x1)
            have hfc := run_firstCells_some (P := X.P) w.drew (X.P.cellsOf ty) (cut row.es off len).length ⟨l.b, l.base + off * l.z, none⟩ (cut row.es off len).length (l.cap - off) olds o1 (fun j v hv => by rw [add_off]; exact o2 j v hv)
            obtain ⟨y, w', φ', q1, q2, q3, q4⟩ := app_grow (P := X.P) (ty' := ty') hm hold (s := r0.s) (i := r0.i) hr1 hu hz hfc o4 o1 hs (by rw [hcl]; omega) (by rw [hcl]; exact hbig)
            rw [hr2] at q2 q4
            rw [hcl] at q1 q4
            obtain ⟨I', k1, k2, k3⟩ := fin y w' φ' _ q2 q3 q4
            exact ⟨y, w', φ', I', q1, k1, k2, k3, by simp⟩
        · omega
      · simp at e
    · simp at e
  · split at e
    · rename_i hc
      obtain ⟨hz, hw, hbig⟩ := hc
      simp only [Option.some.injEq] at e; subst e
      rw [rel_nilS hsr]
      obtain ⟨y, w', φ', q1, q2, q3, q4⟩ := app_nil (P := X.P) (ty' := ty') hm hold (s := dst) (i := 0) (Mem.rows_own m) hu hz (hsrc hw) hbig
      refine ⟨y, w', φ', I, q1, ?_, q3, q4, rfl⟩
      rw [Mem.new_eq]; exact q2
    · simp at e
  · simp at e
end
end Go.Ev
namespace Go.Ev
section
variable {X : Env} {I : Imm} {w : World} {φ : Phi} {m : Mem} {t : Tm} {a : Act} {o : Oper} {r : OpR}
theorem args1 {c : Call} {ρ : Operand → Value} {x : Value} (h : c.args.toList.map ρ = [x]) : c.args.map ρ = #[x] := by
  apply Array.ext'; simpa using h
theorem args2 {c : Call} {ρ : Operand → Value} {x y : Value} (h : c.args.toList.map ρ = [x, y]) : c.args.map ρ = #[x, y] := by
  apply Array.ext'; simpa using h
theorem args3 {c : Call} {ρ : Operand → Value} {x y z : Value} (h : c.args.toList.map ρ = [x, y, z]) : c.args.map ρ = #[x, y, z] := by
  apply Array.ext'; simpa using h
theorem run_builtin {c : Call} {b : Builtin} (hop : o.op = .call c) (hb : c.callee = .builtin b) :
    ∃ cs, (execOp a.eval o).run X.P w = (Go.builtin b c.argTypes o.type cs (c.args.map a.eval)).run X.P w := by
  simp only [execOp, hop, resolve, hb, Sem.run_bind, Sem.run_pure, Result.andThen_ok, invoke]
  exact ⟨_, rfl⟩
theorem op_builtin {c : Call} {b : Builtin} (hm : MemOk X.P I w φ m) (hold : ∀ b o, I b o → b < w.heap.size) (ht : TmOk X I w φ t a) (hg : GlobOk X I w) (hop : o.op = .call c) (hb : c.callee = .builtin b)
    (e : Ev.builtin X m (o.dst.getD 0) b c.argTypes (mapOpd X t c.args.toList) = some r) : OpPost X I w φ m r ((execOp a.eval o).run X.P w) := by
  obtain ⟨consts, hrun⟩ := run_builtin (X := X) (w := w) (a := a) hop hb
  rw [hrun]
  have hargs := opds_rel ht hg c.args.toList
  generalize hvs : mapOpd X t c.args.toList = vs at e hargs
  cases b with
  | len =>
    unfold Ev.builtin at e
    split at e
    · rename_i v hbb
      obtain ⟨x, ys, hxs, hx, hys⟩ := hargs.head
      have := hys.nil_left
      subst this
      have ha := args1 hxs
      rw [ha]
      split at e
      · rename_i s hu
        simp only [Option.some.injEq] at e; subst e
        obtain ⟨t0, h0, hu0⟩ := Option.bind_eq_some_iff.1 hu
        rw [rel_str hx]
        refine post_same hm (.p (.int .i64 s.length)) (run_v ?_)
        have hsz : (⟨s.toArray⟩ : ByteArray).size = s.length := by simp [ByteArray.size]
        simp [Builtin.len_, h0, run_underlying hu0, goInt, hsz]
      · rename_i es hu
        simp only [Option.some.injEq] at e; subst e
        obtain ⟨t0, h0, hu0⟩ := Option.bind_eq_some_iff.1 hu
        obtain ⟨ad, cap, rfl, _⟩ := rel_sl hx
        refine post_same hm (.p (.int .i64 es.length)) (run_v ?_)
        simp [Builtin.len_, h0, run_underlying hu0, goInt]
      · rename_i e0 r0 ty off len hu
        simp only [Option.some.injEq] at e; subst e
        obtain ⟨t0, h0, hu0⟩ := Option.bind_eq_some_iff.1 hu
        have hv : ∃ ad cap, x = .slice ad len cap := by
          rcases rel_rs hx with ⟨_, _, rfl, rfl⟩ | ⟨l, _, _, _, rfl⟩ | ⟨l, ad, _, _, rfl, rfl⟩
          · exact ⟨_, _, rfl⟩
          · exact ⟨_, _, rfl⟩
          · exact ⟨_, _, rfl⟩
        obtain ⟨ad, cap, rfl⟩ := hv
        refine post_same hm (.p (.int .i64 len)) (run_v ?_)
        simp [Builtin.len_, h0, run_underlying hu0, goInt]
      · rename_i e0 hu
        simp only [Option.some.injEq] at e; subst e
        obtain ⟨t0, h0, hu0⟩ := Option.bind_eq_some_iff.1 hu
        rw [rel_nilS hx]
        refine post_same hm (.p (.int .i64 0)) (run_v ?_)
        simp [Builtin.len_, h0, run_underlying hu0, goInt]
      · simp at e
    all_goals first | (rename_i h; simp at h; done) | (simp at e; done) | skip
    all_goals rename_i h1 h2; simp_all
  | append =>
    unfold Ev.builtin at e
    split at e
    · rename_i h; simp at h
    · rename_i s x hbb
      obtain ⟨sv, ys, hxs, hs, hys⟩ := hargs.head
      obtain ⟨xv, zs, rfl, hx, hzs⟩ := hys.head
      have := hzs.nil_left
      subst this
      rw [args2 hxs]
      split at e
      · rename_i ty d hty hd
        obtain ⟨t0, h0, hty⟩ := Option.bind_eq_some_iff.1 hty
        obtain ⟨tx, h1, hd⟩ := Option.bind_eq_some_iff.1 hd
        have hu := slElem_some hty
        have fin : ∀ xs : List V, (xs.all (fun v => decide (v.width = X.P.cellsOf ty)) = true → SrcOk X.P I w (X.P.cellsOf ty) tx xv xs) →
            (appendTo X m (o.dst.getD 0) ty s xs).map (fun p => OpR.val p.1 p.2) = some r →
            OpPost X I w φ m r ((Go.builtin .append c.argTypes o.type consts #[sv, xv]).run X.P w) := by
          intro xs hsrc e
          obtain ⟨p, hp, rfl⟩ := Option.map_eq_some_iff.1 e
          obtain ⟨y, w', φ', I', q1, q2, q3, q4, q5⟩ := appendTo_sound (ty' := o.type) hm hold hs hu hsrc hp
          refine ⟨y, w', I', φ', ?_, q3, q2, q4, q5⟩
          show (do pure (Next.value (← Builtin.append_ c.argTypes o.type #[sv, xv])) : Sem Next).run X.P w = _
          rw [append_args (P := X.P) h0 h1]
          exact run_v (P := X.P) q1
        split at e
        · rename_i by'
          split at e
          · rename_i hu1
            split at e
            · rename_i hone
              rw [rel_str hx] at fin ⊢
              refine fin _ (fun _ => ?_) e
              rw [hone]
              exact bytes_src by' hd
            · simp at e
          · simp at e
        · split at e
          · exact fin _ (fun hw => elemsOf_sound hm hx (by assumption) hw hd) e
          · simp at e
      · simp at e
    all_goals first | (rename_i h; simp at h; done) | (simp at e; done) | skip
    all_goals rename_i h1 h2; simp_all
  | min =>
    unfold Ev.builtin at e
    split at e
    · rename_i h; simp at h
    · rename_i h; simp at h
    · rename_i k p k' q hbb
      obtain ⟨sv, ys, hxs, hs, hys⟩ := hargs.head
      obtain ⟨xv, zs, rfl, hx, hzs⟩ := hys.head
      have := hzs.nil_left
      subst this
      rw [args2 hxs, rel_int hs, rel_int hx]
      simp only [Option.some.injEq] at e; subst e
      refine post_same hm (.p (.int k _)) (run_v ?_)
      simp [Builtin.min_, Builtin.min2]
    all_goals first | (rename_i h; simp at h; done) | (simp at e; done) | skip
    all_goals rename_i h1 h2; simp_all
  | max =>
    unfold Ev.builtin at e
    split at e
    · rename_i h; simp at h
    · rename_i h; simp at h
    · rename_i h; simp at h
    · rename_i k p k' q hbb
      obtain ⟨sv, ys, hxs, hs, hys⟩ := hargs.head
      obtain ⟨xv, zs, rfl, hx, hzs⟩ := hys.head
      have := hzs.nil_left
      subst this
      rw [args2 hxs, rel_int hs, rel_int hx]
      simp only [Option.some.injEq] at e; subst e
      refine post_same hm (.p (.int k _)) (run_v ?_)
      simp [Builtin.max_, Builtin.max2]
    · rename_i k p k' q k'' q' hbb
      obtain ⟨sv, ys, hxs, hs, hys⟩ := hargs.head
      obtain ⟨xv, zs, rfl, hx, hzs⟩ := hys.head
      obtain ⟨yv, us, rfl, hy, hus⟩ := hzs.head
      have := hus.nil_left
      subst this
      rw [args3 hxs, rel_int hs, rel_int hx, rel_int hy]
      simp only [Option.some.injEq] at e; subst e
      refine post_same hm (.p (.int k _)) (run_v ?_)
      simp [Builtin.max_, Builtin.max2]
    all_goals first | (rename_i h; simp at h; done) | (simp at e; done) | skip
  | _ => simp [Ev.builtin] at e
theorem run_enter {P : Program} {f : FuncId} (h : callOk P f = true) (args : Array Value) : (callFunc f args).run P w = .ok (.enter f args) w := by
  unfold callOk at h
  split at h
  · rename_i fn hf
    simp only [Bool.and_eq_true, Bool.not_eq_true'] at h
    have hb : fn.body.isNone = false := by
      cases hb : fn.body with
      | none => simp [hb] at h
      | some c => rfl
    simp only [callFunc, Sem.run_bind, run_program, Result.andThen_ok, hf, h.2, hb, Bool.false_eq_true, if_false, Sem.run_pure]
  · simp at h
theorem op_callV {c : Call} {f : Operand} (hm : MemOk X.P I w φ m) (hold : ∀ b o, I b o → b < w.heap.size) (ht : TmOk X I w φ t a) (hg : GlobOk X I w) (hop : o.op = .call c) (hb : c.callee = .value f) (e : evOp X m t o = some r) :
    OpPost X I w φ m r ((execOp a.eval o).run X.P w) := by
  simp only [evOp, hop, hb] at e
  split at e
  · rename_i g first cap hcal
    split at e
    · rename_i az has
      split at e
      · rename_i hok
        simp only [Option.some.injEq] at e; subst e
        have hf := opd_rel ht hg f
        have hfv : opd X t f = .fn g first cap := by
          unfold calleeOf at hcal
          split at hcal
          · rename_i h; simp only [Option.some.injEq, Prod.mk.injEq] at hcal; obtain ⟨rfl, rfl, rfl⟩ := hcal; exact h
          · simp at hcal
        rw [hfv] at hf
        obtain ⟨xs, ys, he, l1, r1, l2, r2⟩ := rel_fn hf
        have hargs := opds_rel ht hg c.args.toList
        have hrun : (execOp a.eval o).run X.P w = .ok (.enter g ⟨xs ++ c.args.toList.map a.eval ++ ys⟩) w := by
          simp only [execOp, hop, resolve, hb, he, Deferred.ofValue, Sem.run_bind, Sem.run_pure, Result.andThen_ok, invoke]
          rw [run_enter hok]
          congr 2
          apply Array.ext'
          simp
        have mk : ∀ I' : Imm, (∀ b o, I b o → I' b o) → (∀ v ∈ mapOpd X t c.args.toList, Cov m φ I' v) → All2 (Rel X.P I' w φ) (first ++ az ++ cap) (xs ++ c.args.toList.map a.eval ++ ys) := by
          intro I' hI hc
          have h1 : All2 (Rel X.P I' w φ) first xs := ⟨l1, fun i v x p q => .p ((r1 i v x p q).mono hI (fun _ _ _ _ h => h))⟩
          have h2 := snaps_sound _ az _ hm hI hargs hc has
          have h3 : All2 (Rel X.P I' w φ) cap ys := ⟨l2, fun i v x p q => (r2 i v x p q).mono hI (fun _ _ _ _ h => h) (fun _ _ h => h)⟩
          exact (h1.append h2).append h3
        refine ⟨hok, _, hrun, ?_, ?_⟩
        · split
          · rfl
          · obtain ⟨I', m1, e1, c1, s1⟩ := frzs_sound _ _ I m hm hargs
            exact s1.1
        · split
          · rename_i hsc
            right
            refine ⟨hsc.1, hsc.2, rfl, mk (allI w) (fun b o h => hold b o h) (fun v hv => ?_)⟩
            have cov : ∀ u, Cov1 m φ (allI w) u := fun u r ty off len _ row l _ _ hl o _ _ => hm.size r l hl
            cases v <;> first | exact cov _ | exact fun u _ => cov u
          · left
            obtain ⟨I', m1, e1, c1, s1⟩ := frzs_sound _ _ I m hm hargs
            exact ⟨I', e1, m1, mk I' e1.imm c1⟩
      · simp at e
    · simp at e
  · simp at e
theorem op_defer {c : Call} (ht : TmOk X I w φ t a) (hg : GlobOk X I w) (hop : o.op = .defer c) (e : evOp X m t o = some r) :
    OpPost X I w φ m r ((execOp a.eval o).run X.P w) := by
  simp only [evOp, hop] at e
  split at e
  · rename_i f hb
    split at e
    · rename_i g cap hcal hnil
      simp only [Option.some.injEq] at e; subst e
      have hf := opd_rel ht hg f
      have hfv : opd X t f = .fn g [] cap := by
        unfold calleeOf at hcal
        split at hcal
        · rename_i h; simp only [Option.some.injEq, Prod.mk.injEq] at hcal; obtain ⟨rfl, rfl, rfl⟩ := hcal; exact h
        · simp at hcal
      rw [hfv] at hf
      obtain ⟨xs, ys, he, l1, r1, l2, r2⟩ := rel_fn hf
      have hxs : xs = [] := by cases xs with
        | nil => rfl
        | cons => simp at l1
      subst hxs
      refine ⟨ys, ?_, l2, r2⟩
      have hargs : c.args = #[] := by apply Array.ext'; simpa using hnil
      simp [execOp, hop, resolve, hb, he, Deferred.ofValue, hargs]
    · simp at e
  · simp at e
theorem op_panic {x : Operand} (ht : TmOk X I w φ t a) (hg : GlobOk X I w) (hop : o.op = .panic x) (e : evOp X m t o = some r) :
    OpPost X I w φ m r ((execOp a.eval o).run X.P w) := by
  simp only [evOp, hop] at e
  have hx := opd_rel ht hg x
  split at e
  · rename_i ty v h0
    simp only [Option.some.injEq] at e; subst e
    rw [h0] at hx
    obtain ⟨y, he, _⟩ := rel_ifc hx
    refine ⟨.iface ty y, ?_, he ▸ hx⟩
    simp [execOp, hop, he, Instr.panic]
  · simp at e
end
end Go.Ev
namespace Go.Ev
section
variable {X : Env} {I : Imm} {w : World} {φ : Phi} {m : Mem} {t : Tm} {a : Act} {o : Oper} {r : OpR}
theorem evOp_sound (hm : MemOk X.P I w φ m) (hold : ∀ b o, I b o → b < w.heap.size) (ht : TmOk X I w φ t a) (hg : GlobOk X I w) (e : evOp X m t o = some r) : OpPost X I w φ m r ((execOp a.eval o).run X.P w) := by
  cases hop : o.op with
  | move x => exact op_move hm ht hg hop e
  | assign x => exact op_assign hm ht hg hop e
  | pick c x y => exact op_pick hm ht hg hop e
  | alloc ty => exact op_alloc hm hold hop e
  | box ty x => exact op_box hm hold ht hg hop e
  | build ty ps => exact op_build hm ht hg hop e
  | buildSlice ty n ps => exact op_buildSlice hm hold ht hg hop e
  | load ty x => exact op_load hm ht hg hop e
  | store ty x y => exact op_store hm ht hg hop e
  | nilCheck x => exact op_nilCheck hm ht hg hop e
  | binOp op ty x y b => exact op_binOp hm ht hg hop e
  | unOp op ty x => exact op_unOp hm ht hg hop e
  | convert s d x => exact op_convert hm ht hg hop e
  | makeInterface ty x => exact op_makeInterface hm ht hg hop e
  | makeFunc f x c => exact op_makeFunc hm ht hg hop e
  | makeSlice ty l c => exact op_makeSlice hm hold ht hg hop e
  | slice ty x lo hi mx => exact op_slice hm ht hg hop e
  | fieldAddr ty x f => exact op_fieldAddr hm ht hg hop e
  | field ty x f => exact op_field hm ht hg hop e
  | indexAddr ty x i => exact op_indexAddr hm ht hg hop e
  | index ty x i => exact op_index hm ht hg hop e
  | extract x i => exact op_extract hm ht hg hop e
  | typeAssert x xt ty ok => exact op_typeAssert hm ht hg hop e
  | call c =>
    cases hb : c.callee with
    | builtin b =>
      have e' := e
      simp only [evOp, hop, hb] at e'
      exact op_builtin hm hold ht hg hop hb e'
    | value f => exact op_callV hm hold ht hg hop hb e
    | invoke x n => simp [evOp, hop, hb] at e
  | defer c => exact op_defer ht hg hop e
  | panic x => exact op_panic ht hg hop e
  | _ => simp [evOp, hop] at e
end
end Go.Ev
namespace Go.Ev
section
variable {P : Program} {I : Imm} {w : World} {φ : Phi} {m : Mem}
def ownB : Value → Option Nat
  | .slice (some a) _ _ => some a.block
  | _ => none
def OwnOk (P : Program) (I : Imm) (w : World) (es : List V) (ty : TypeId) (x : Value) : Prop :=
  (x = .slice none 0 0 ∧ es = []) ∨
  ∃ l : Loc, x = .slice (some ⟨l.b, l.base, none⟩) es.length l.cap ∧ RowOk P I w (fun _ => none) { g := 1, ty, arr := true, fz := false, es } (some l)
inductive RelR1 (P : Program) (I : Imm) (w : World) (φ : Phi) : (Nat → Prop) → V → Value → (Nat → Prop) → Prop
  | own {U : Nat → Prop} {es : List V} {ty : TypeId} {x : Value} : OwnOk P I w es ty x → (∀ b, ownB x = some b → ¬ U b) → RelR1 P I w φ U (.own es ty) x (fun b => U b ∨ ownB x = some b)
  | rel {U : Nat → Prop} {v : V} {x : Value} : Rel P I w φ v x → v.transit = false → RelR1 P I w φ U v x U
inductive RelRL (P : Program) (I : Imm) (w : World) (φ : Phi) : (Nat → Prop) → List V → List Value → (Nat → Prop) → Prop
  | nil {U : Nat → Prop} : RelRL P I w φ U [] [] U
  | cons {U U' U'' : Nat → Prop} {v : V} {x : Value} {vs : List V} {xs : List Value} : RelR1 P I w φ U v x U' → RelRL P I w φ U' vs xs U'' → RelRL P I w φ U (v :: vs) (x :: xs) U''
inductive RelR2 (P : Program) (I : Imm) (w : World) (φ : Phi) : (Nat → Prop) → V → Value → (Nat → Prop) → Prop
  | agg {U U' : Nat → Prop} {cs : List V} {xs : List Value} : RelRL P I w φ U cs xs U' → (∀ x ∈ xs, x.oneCell' = true) → RelR2 P I w φ U (.agg cs) (.agg ⟨xs⟩) U'
  | one {U U' : Nat → Prop} {v : V} {x : Value} : v.isAgg = false → RelR1 P I w φ U v x U' → RelR2 P I w φ U v x U'
inductive RelR2L (P : Program) (I : Imm) (w : World) (φ : Phi) : (Nat → Prop) → List V → List Value → (Nat → Prop) → Prop
  | nil {U : Nat → Prop} : RelR2L P I w φ U [] [] U
  | cons {U U' U'' : Nat → Prop} {v : V} {x : Value} {vs : List V} {xs : List Value} : RelR2 P I w φ U v x U' → RelR2L P I w φ U' vs xs U'' → RelR2L P I w φ U (v :: vs) (x :: xs) U''
inductive RelR (P : Program) (I : Imm) (w : World) (φ : Phi) : (Nat → Prop) → V → Value → (Nat → Prop) → Prop
  | tup {U U' : Nat → Prop} {vs : List V} {xs : List Value} : RelR2L P I w φ U vs xs U' → RelR P I w φ U (.tup vs) (.tuple ⟨xs⟩) U'
  | one {U U' : Nat → Prop} {v : V} {x : Value} : (∀ vs, v ≠ .tup vs) → RelR2 P I w φ U v x U' → RelR P I w φ U v x U'
structure Taken (P : Program) (I0 : Imm) (w0 : World) (φ0 : Phi) (I : Imm) (w : World) (φ : Phi) (m : Mem) (n : Nat) (U : Nat → Prop) : Prop where
  mem : MemOk P I w φ m
  ext : Ext I0 w0 φ0 I w φ
  used : ∀ r l, φ r = some (some l) → U l.b
  old : ∀ b, b < w0.heap.size → U b
  len : m.out.length = n
theorem Rel.phi {φ' : Phi} (hφ : ∀ r l, φ r = some l → φ' r = some l) {v : V} {x : Value} (h : Rel P I w φ v x) : Rel P I w φ' v x := h.mono (fun _ _ h => h) (fun _ _ _ _ h => h) hφ
theorem Taken.phi_ext {I0 : Imm} {w0 : World} {φ0 φ' : Phi} (h : Ext I0 w0 φ0 I w φ) (hφ : ∀ r l, φ r = some l → φ' r = some l) (hf : ∀ r l, φ' r = some (some l) → φ r = some (some l) ∨ w0.heap.size ≤ l.b) : Ext I0 w0 φ0 I w φ' := by
  refine ⟨h.imm, h.cell, fun r l k => hφ _ _ (h.phi r l k), h.hsize, h.os, h.tape, h.output, h.block, ?_, h.immNew, h.plain, h.old⟩
  intro r l hl
  rcases hf r l hl with h' | h'
  · exact h.fresh r l h'
  · exact .inr h'
theorem take_own {I0 : Imm} {w0 : World} {φ0 : Phi} {n : Nat} {U : Nat → Prop} (h : Taken P I0 w0 φ0 I w φ m n U) {es : List V} {ty : TypeId} {x : Value} (ho : OwnOk P I w es ty x) (hx : ∀ b, ownB x = some b → ¬ U b) (dst i : Nat) :
    ∃ φ', Taken P I0 w0 φ0 I w φ' (m.new dst i ty true es) n (fun b => U b ∨ ownB x = some b) ∧ (∀ r l, φ r = some l → φ' r = some l) ∧ Rel P I w φ' (.rs (m.newRef dst i) ty 0 es.length) x := by
  rcases ho with ⟨rfl, rfl⟩ | ⟨l, rfl, hrow⟩
  · have hm := step_newNilAt (P := P) h.mem m.out.length dst i (Mem.rows_own m) ty
    obtain ⟨m1, e1⟩ := hm
    refine ⟨φ.put (m.newRef dst i) none, ⟨by rw [Mem.new_eq]; exact m1, h.ext.trans e1, ?_, fun b hb => .inl (h.old b hb), by simpa using h.len⟩, e1.phi, .rsNil (Phi.put_same _ _ _)⟩
    intro r l hl
    unfold Phi.put at hl
    split at hl
    · simp at hl
    · exact .inl (h.used r l hl)
  · have hnone := h.mem.newRef_none dst i
    have hφ := Phi.put_mono (φ := φ) hnone (some l)
    have hU : ¬ U l.b := hx l.b rfl
    have hne : ∀ r l0, φ r = some (some l0) → l0.b ≠ l.b := fun r l0 hl e => hU (e ▸ h.used r l0 hl)
    obtain ⟨q1, q2, q3, ⟨cs, t, q4, q4'⟩, q5, q6, q7, q8⟩ := hrow
    have hlt : l.b < w.heap.size := by
      rcases Nat.lt_or_ge l.b w.heap.size with h | h
      · exact h
      · rw [Array.getElem?_eq_none h] at q4; simp at q4
    have hm : MemOk P I w (φ.put (m.newRef dst i) (some l)) (m.new dst i ty true es) := by
      rw [Mem.new_eq]
      refine h.mem.replace (rows := m.own) (l' := some l) (Mem.rows_own m) (by simp) (by simp) hφ ?_ (Phi.put_same _ _ _) ?_ ?_ ?_ (Nat.le_refl _) ?_
      · intro r hr
        unfold Phi.put at hr
        split at hr
        · rename_i e; exact .inr e
        · exact .inl hr
      · refine ⟨q1, q2, q3, ⟨cs, t, q4, q4'⟩, q5, ?_, q7, q8⟩
        intro j e c v hj hc
        obtain ⟨x, x1, x2, x3⟩ := q6 j e c v hj hc
        exact ⟨x, x1, x2, by simpa using x3⟩
      · intro r row l0 hr hg hn hl hok
        exact hok.keep (fun _ _ h => h) (fun _ _ _ _ h => h) (Phi.upto_mono r.d hφ) (fun _ _ => rfl) (fun _ _ _ _ h => h)
      · intro r l0 l1 hn hl e
        simp only [Option.some.injEq] at e; subst e
        exact hne r l0 hl
      · intro l0 e
        simp only [Option.some.injEq] at e; subst e
        exact hlt
    refine ⟨φ.put (m.newRef dst i) (some l), ⟨hm, ?_, ?_, fun b hb => .inl (h.old b hb), by simpa using h.len⟩, hφ, ?_⟩
    · refine Taken.phi_ext h.ext hφ (fun r l0 hl => ?_)
      unfold Phi.put at hl
      split at hl
      · simp only [Option.some.injEq] at hl; subst hl
        right
        rcases Nat.lt_or_ge l.b w0.heap.size with h' | h'
        · exact absurd (h.old _ h') hU
        · exact h'
      · exact .inl hl
    · intro r l0 hl
      unfold Phi.put at hl
      split at hl
      · simp only [Option.some.injEq] at hl; subst hl; exact .inr rfl
      · exact .inl (h.used r l0 hl)
    · have := Rel.rs (P := P) (I := I) (w := w) (φ := φ.put (m.newRef dst i) (some l)) (r := m.newRef dst i) (ty := ty) (off := 0) (len := es.length) (l := l) (Phi.put_same _ _ _) (by simpa using q1) q2
      simpa using this
theorem RelR1.phi {φ' : Phi} (hφ : ∀ r l, φ r = some l → φ' r = some l) {U U' : Nat → Prop} {v : V} {x : Value} (h : RelR1 P I w φ U v x U') : RelR1 P I w φ' U v x U' := by
  cases h with
  | own a b => exact .own a b
  | rel a b => exact .rel (a.phi hφ) b
theorem RelRL.phi {φ' : Phi} (hφ : ∀ r l, φ r = some l → φ' r = some l) {U U' : Nat → Prop} {v : List V} {x : List Value} (h : RelRL P I w φ U v x U') : RelRL P I w φ' U v x U' := by
  induction h with
  | nil => exact .nil
  | cons a _ ih => exact .cons (a.phi hφ) ih
theorem RelR2.phi {φ' : Phi} (hφ : ∀ r l, φ r = some l → φ' r = some l) {U U' : Nat → Prop} {v : V} {x : Value} (h : RelR2 P I w φ U v x U') : RelR2 P I w φ' U v x U' := by
  cases h with
  | agg a b => exact .agg (a.phi hφ) b
  | one a b => exact .one a (b.phi hφ)
theorem RelR2L.phi {φ' : Phi} (hφ : ∀ r l, φ r = some l → φ' r = some l) {U U' : Nat → Prop} {v : List V} {x : List Value} (h : RelR2L P I w φ U v x U') : RelR2L P I w φ' U v x U' := by
  induction h with
  | nil => exact .nil
  | cons a _ ih => exact .cons (a.phi hφ) ih
theorem RelR.phi {φ' : Phi} (hφ : ∀ r l, φ r = some l → φ' r = some l) {U U' : Nat → Prop} {v : V} {x : Value} (h : RelR P I w φ U v x U') : RelR P I w φ' U v x U' := by
  cases h with
  | tup a => exact .tup (a.phi hφ)
  | one a b => exact .one a (b.phi hφ)
theorem inst1_sound {I0 : Imm} {w0 : World} {φ0 : Phi} {n : Nat} {U U' : Nat → Prop} (h : Taken P I0 w0 φ0 I w φ m n U) {v : V} {x : Value} (hr : RelR1 P I w φ U v x U') (dst i : Nat) :
    ∃ φ', Taken P I0 w0 φ0 I w φ' (inst1 m dst i v).1 n U' ∧ (∀ r l, φ r = some l → φ' r = some l) ∧ Rel P I w φ' (inst1 m dst i v).2 x ∧ ((inst1 m dst i v).2.isAgg = true → v.isAgg = true) := by
  cases hr with
  | own a b =>
    obtain ⟨φ', t1, t2, t3⟩ := take_own h a b dst i
    exact ⟨φ', t1, t2, t3, fun h => by simp [inst1, V.isAgg] at h⟩
  | rel a b =>
    have e : inst1 m dst i v = (m, v) := by cases v <;> first | rfl | simp [V.transit] at b
    rw [e]
    exact ⟨φ, h, fun _ _ h => h, a, fun h => h⟩
theorem instL_sound {I0 : Imm} {w0 : World} {φ0 : Phi} {n : Nat} (dst : Nat) : ∀ (vs : List V) (xs : List Value) (i : Nat) (φ : Phi) (m : Mem) (U U' : Nat → Prop), Taken P I0 w0 φ0 I w φ m n U → RelRL P I w φ U vs xs U' →
    ∃ φ', Taken P I0 w0 φ0 I w φ' (instL m dst i vs).1 n U' ∧ (∀ r l, φ r = some l → φ' r = some l) ∧ All2 (Rel P I w φ') (instL m dst i vs).2 xs
  | [], xs, i, φ, m, U, U', h, hr => by
    cases hr
    exact ⟨φ, h, fun _ _ h => h, .nil⟩
  | v :: vs, xs, i, φ, m, U, U', h, hr => by
    cases hr with
    | cons a b =>
      obtain ⟨φ1, t1, k1, r1, _⟩ := inst1_sound h a dst i
      obtain ⟨φ2, t2, k2, r2⟩ := instL_sound dst vs _ (i + 1) φ1 _ _ U' t1 (b.phi k1)
      exact ⟨φ2, t2, fun r l h => k2 _ _ (k1 _ _ h), .cons (r1.phi k2) r2⟩
theorem relRL_plain {U U' : Nat → Prop} : ∀ {vs : List V} {xs : List Value}, RelRL P I w φ U vs xs U' → vs.any V.transit = false → All2 (Rel P I w φ) vs xs ∧ U' = U
  | [], _, h, _ => by cases h; exact ⟨.nil, rfl⟩
  | v :: vs, _, h, hn => by
    cases h with
    | cons a b =>
      simp only [List.any_cons, Bool.or_eq_false_iff] at hn
      cases a with
      | own => simp [V.transit] at hn
      | rel a _ =>
        obtain ⟨q1, q2⟩ := relRL_plain b hn.2
        exact ⟨.cons a q1, q2⟩
theorem inst2_sound {I0 : Imm} {w0 : World} {φ0 : Phi} {n : Nat} {U U' : Nat → Prop} (h : Taken P I0 w0 φ0 I w φ m n U) {v : V} {x : Value} (hr : RelR2 P I w φ U v x U') (dst i : Nat) :
    ∃ φ', Taken P I0 w0 φ0 I w φ' (inst2 m dst i v).1 n U' ∧ (∀ r l, φ r = some l → φ' r = some l) ∧ Rel P I w φ' (inst2 m dst i v).2 x := by
  cases hr with
  | agg a b =>
    rename_i cs xs
    simp only [inst2]
    split
    · obtain ⟨φ', t1, k1, r1⟩ := instL_sound dst cs xs i φ m U U' h a
      exact ⟨φ', t1, k1, .agg r1.1 r1.2 b⟩
    · rename_i hn
      obtain ⟨q1, q2⟩ := relRL_plain a (by simpa using hn)
      rw [q2]
      exact ⟨φ, h, fun _ _ h => h, .agg q1.1 q1.2 b⟩
  | one a b =>
    have e : inst2 m dst i v = inst1 m dst i v := by cases v <;> first | rfl | simp [V.isAgg] at a
    rw [e]
    obtain ⟨φ', t1, k1, r1, _⟩ := inst1_sound h b dst i
    exact ⟨φ', t1, k1, r1⟩
theorem inst2s_sound {I0 : Imm} {w0 : World} {φ0 : Phi} {n : Nat} (dst : Nat) : ∀ (vs : List V) (xs : List Value) (i : Nat) (φ : Phi) (m : Mem) (U U' : Nat → Prop), Taken P I0 w0 φ0 I w φ m n U → RelR2L P I w φ U vs xs U' →
    ∃ φ', Taken P I0 w0 φ0 I w φ' (inst2s m dst i vs).1 n U' ∧ (∀ r l, φ r = some l → φ' r = some l) ∧ All2 (Rel P I w φ') (inst2s m dst i vs).2 xs
  | [], xs, i, φ, m, U, U', h, hr => by
    cases hr
    exact ⟨φ, h, fun _ _ h => h, .nil⟩
  | v :: vs, xs, i, φ, m, U, U', h, hr => by
    cases hr with
    | cons a b =>
      obtain ⟨φ1, t1, k1, r1⟩ := inst2_sound h a dst i
      obtain ⟨φ2, t2, k2, r2⟩ := inst2s_sound dst vs _ (i + 1000) φ1 _ _ U' t1 (b.phi k1)
      exact ⟨φ2, t2, fun r l h => k2 _ _ (k1 _ _ h), .cons (r1.phi k2) r2⟩
theorem install_sound {I0 : Imm} {w0 : World} {φ0 : Phi} {n : Nat} {U U' : Nat → Prop} (h : Taken P I0 w0 φ0 I w φ m n U) {v : V} {x : Value} (hr : RelR P I w φ U v x U') (dst : Nat) :
    ∃ φ', Taken P I0 w0 φ0 I w φ' (install m dst v).1 n U' ∧ Rel P I w φ' (install m dst v).2 x := by
  cases hr with
  | tup a =>
    rename_i vs xs
    obtain ⟨φ', t1, _, r1⟩ := inst2s_sound dst vs xs 1000 φ m U U' h a
    exact ⟨φ', t1, .tup r1.1 r1.2⟩
  | one a b =>
    have e : install m dst v = inst2 m dst 1000 v := by cases v <;> first | rfl | exact absurd rfl (a _)
    rw [e]
    obtain ⟨φ', t1, _, r1⟩ := inst2_sound h b dst 1000
    exact ⟨φ', t1, r1⟩
def OutOk (P : Program) (I : Imm) (w : World) (φ : Phi) : List Rows → Prop
  | [] => ∀ r, φ r = none
  | own :: outs => MemOk P I w φ ⟨own, outs⟩
def usedB (w : World) (φ : Phi) (b : Nat) : Prop := b < w.heap.size ∨ ∃ r l, φ r = some (some l) ∧ l.b = b
def FnPost (P : Program) (I : Imm) (w : World) (φ : Phi) (out : List Rows) : Res × List Rows → Ending → World → Prop
  | (.ret v, out'), .returned x, w' => ∃ I' φ' U', Ext I w φ I' w' φ' ∧ OutOk P I' w' φ' out' ∧ out'.length = out.length ∧ RelR P I' w' φ' (usedB w φ') v x U'
  | (.panic v, out'), .panicked chain, w' => ∃ I' φ' x, chain = [{ v := x, recovered := false }] ∧ Ext I w φ I' w' φ' ∧ OutOk P I' w' φ' out' ∧ out'.length = out.length ∧ Rel P I' w' φ' v x
  | _, _, _ => False
theorem enter_mem {out : List Rows} (h : OutOk P I w φ out) : MemOk P I w φ ⟨.nil, out⟩ ∧ ∀ r, φ r ≠ none → r.d < out.length := by
  have hrows : ∀ d, d ≠ out.length → (⟨Trie.nil, out⟩ : Mem).rows d = outRows out d := fun d hd => by simp [Mem.rows, hd]
  have hnew : ∀ r row, (⟨Trie.nil, out⟩ : Mem).row r = some row → r.g ≠ 0 → r.d ≠ out.length := by
    intro r row hr hg e
    obtain ⟨rows, h1, h2, h3⟩ := (Mem.row_eq _ _ _).1 hr
    rw [e] at h1
    have : rows = .nil := by simp [Mem.rows] at h1; exact h1.symm
    subst this
    rw [Rows.get_nil] at h2
    subst h2
    exact hg h3.symm
  cases out with
  | nil =>
    have hn : ∀ r, φ r = none := h
    refine ⟨⟨?_, fun r hr => absurd (hn r) hr, fun r hr => absurd (hn r) hr, fun r r' l _ hl => by rw [hn r] at hl; simp at hl, fun r l hl => by rw [hn r] at hl; simp at hl⟩, fun r hr => absurd (hn r) hr⟩
    intro r row hr hg
    have hd := hnew r row hr hg
    obtain ⟨rows, h1, _⟩ := (Mem.row_eq _ _ _).1 hr
    rw [hrows _ hd] at h1
    simp [outRows] at h1
  | cons own outs =>
    have hm : MemOk P I w φ ⟨own, outs⟩ := h
    have heq : ∀ d, d ≠ (own :: outs).length → (⟨Trie.nil, own :: outs⟩ : Mem).rows d = (⟨own, outs⟩ : Mem).rows d := by
      intro d hd
      rw [hrows d hd, outRows]
      simp [Mem.rows]
    have hroweq : ∀ r : Ref, r.d ≠ (own :: outs).length → (⟨Trie.nil, own :: outs⟩ : Mem).row r = (⟨own, outs⟩ : Mem).row r := by
      intro r hd; unfold Mem.row; rw [heq _ hd]
    have hlt : ∀ r, φ r ≠ none → r.d < (own :: outs).length := by
      intro r hr
      obtain ⟨rows, h1, _⟩ := hm.gens r hr
      have := Mem.rows_le h1
      simp at this ⊢; omega
    refine ⟨⟨?_, hm.zero, ?_, hm.dis, hm.size⟩, hlt⟩
    · intro r row hr hg
      have hd := hnew r row hr hg
      rw [hroweq r hd] at hr
      exact hm.live r row hr hg
    · intro r hr
      obtain ⟨rows, h1, h2⟩ := hm.gens r hr
      exact ⟨rows, by rw [heq _ (by have := hlt r hr; omega)]; exact h1, h2⟩
def Phi.below (φ : Phi) (d : Nat) : Phi := fun r => if r.d < d then φ r else none
theorem Phi.below_le {φ : Phi} {d : Nat} : ∀ (r : Ref) (l : Option Loc), φ.below d r = some l → φ r = some l := by
  intro r l h
  unfold Phi.below at h
  split at h
  · exact h
  · simp at h
theorem leave_mem (h : MemOk P I w φ m) : OutOk P I w (φ.below m.out.length) m.out := by
  obtain ⟨own0, out⟩ := m
  cases out with
  | nil => intro r; unfold Phi.below; simp
  | cons own outs =>
    have heq : ∀ d, d ≠ (own :: outs).length → (⟨own0, own :: outs⟩ : Mem).rows d = (⟨own, outs⟩ : Mem).rows d := by
      intro d hd
      simp only [Mem.rows, if_neg hd]
      rw [outRows]
    have hroweq : ∀ r : Ref, r.d ≠ (own :: outs).length → (⟨own0, own :: outs⟩ : Mem).row r = (⟨own, outs⟩ : Mem).row r := by
      intro r hd; unfold Mem.row; rw [heq _ hd]
    have hb : ∀ r l, φ.below (own :: outs).length r = some l → φ r = some l ∧ r.d < (own :: outs).length := by
      intro r l hl
      unfold Phi.below at hl
      split at hl
      · rename_i hd; exact ⟨hl, hd⟩
      · simp at hl
    have hb' : ∀ r, φ.below (own :: outs).length r ≠ none → φ r ≠ none ∧ r.d < (own :: outs).length := by
      intro r hr
      unfold Phi.below at hr
      split at hr
      · rename_i hd; exact ⟨hr, hd⟩
      · simp at hr
    show MemOk P I w (φ.below (own :: outs).length) ⟨own, outs⟩
    refine ⟨?_, fun r hr => h.zero r (hb' r hr).1, ?_, ?_, fun r l hl => h.size r l (hb r _ hl).1⟩
    · intro r row hr hg
      have hd : r.d < (own :: outs).length := by
        obtain ⟨rows, h1, _⟩ := (Mem.row_eq _ _ _).1 hr
        have := Mem.rows_le h1
        simp at this ⊢; omega
      obtain ⟨l, hl, hok⟩ := h.live r row (by rw [hroweq r (by omega)]; exact hr) hg
      refine ⟨l, by unfold Phi.below; rw [if_pos hd]; exact hl, ?_⟩
      have e : (φ.below (own :: outs).length).upto r.d = φ.upto r.d := by
        funext r'
        unfold Phi.upto Phi.below
        split
        · rw [if_pos (by omega)]
        · rfl
      rw [e]; exact hok
    · intro r hr
      obtain ⟨h1, hd⟩ := hb' r hr
      obtain ⟨rows, h2, h3⟩ := h.gens r h1
      exact ⟨rows, by rw [← heq _ (by omega)]; exact h2, h3⟩
    · intro r r' l l' hl hl' hne
      exact h.dis r r' l l' (hb _ _ hl).1 (hb _ _ hl').1 hne
end
end Go.Ev
namespace Go.Ev
section
variable {P : Program} {I : Imm} {w : World} {φ : Phi} {m : Mem}
theorem all2_of {R : V → Value → Prop} : ∀ (vs : List V), (∀ v ∈ vs, ∃ x, R v x) → ∃ xs, All2 R vs xs
  | [], _ => ⟨[], .nil⟩
  | v :: vs, h => by
    obtain ⟨x, hx⟩ := h v (by simp)
    obtain ⟨xs, hxs⟩ := all2_of vs fun u hu => h u (by simp [hu])
    exact ⟨x :: xs, .cons hx hxs⟩
theorem nodup_flatMap {α β : Type} {f : α → List β} : ∀ {l : List α} {a b : α} {x : β}, (l.flatMap f).Nodup → a ∈ l → b ∈ l → x ∈ f a → x ∈ f b → a = b
  | [], a, b, x, _, ha, _, _, _ => by simp at ha
  | c :: l, a, b, x, h, ha, hb, xa, xb => by
    rw [List.flatMap_cons, List.nodup_append] at h
    obtain ⟨_, h2, h3⟩ := h
    rcases List.mem_cons.1 ha with ea | ha'
    · rcases List.mem_cons.1 hb with eb | hb'
      · rw [ea, eb]
      · rw [ea] at xa
        exact absurd rfl (h3 x xa x (List.mem_flatMap.2 ⟨b, hb', xb⟩))
    · rcases List.mem_cons.1 hb with eb | hb'
      · rw [eb] at xb
        exact absurd rfl (h3 x xb x (List.mem_flatMap.2 ⟨a, ha', xa⟩))
      · exact nodup_flatMap h2 ha' hb' xa xb
theorem frz1_keeps {r : Ref} {v : V} (h : ∀ r' ty off len, v = .rs r' ty off len → ¬ (r.d = r'.d ∧ r.s = r'.s ∧ r.i = r'.i)) : (frz1 m v).row r = m.row r := by
  cases v with
  | rs r' ty off len =>
    simp only [frz1]
    split
    · split
      · rw [Mem.row_set_ne (h r' ty off len rfl)]
      · rfl
    · rfl
  | _ => rfl
theorem frzL_keeps {r : Ref} : ∀ (vs : List V) (m : Mem), (∀ v ∈ vs, ∀ r' ty off len, v = .rs r' ty off len → ¬ (r.d = r'.d ∧ r.s = r'.s ∧ r.i = r'.i)) → (frzL m vs).row r = m.row r
  | [], m, _ => rfl
  | v :: vs, m, h => by
    rw [frzL, frzL_keeps vs _ (fun u hu => h u (by simp [hu])), frz1_keeps (h v (by simp))]
theorem outer_rel {n : Nat} {v : V} {x : Value} (hr : Rel P I w φ v x) (hn : m.out.length = n) (h : outer m v = true) : Rel P I w (φ.below n) v x := by
  cases v with
  | ptr r j off =>
    simp only [outer, decide_eq_true_eq] at h
    obtain ⟨l, hl, rfl⟩ := rel_ptr hr
    exact .ptr (by unfold Phi.below; rw [if_pos (by omega)]; exact hl)
  | _ => simp [outer] at h
structure Ends (P : Program) (I' : Imm) (w : World) (φ : Phi) (m m' : Mem) (ok : Bool) (w0 : World) (all : List V) : Prop where
  mem : MemOk P I' w φ m'
  same : SameRows m m'
  cov : ∀ c ∈ all, owned m ok c = false → Cov1 m φ I' c
  keep : ∀ r ty off len, .rs r ty off len ∈ all → owned m ok (.rs r ty off len) = true → m'.row r = m.row r
  fresh : ∀ r l, φ r = some (some l) → r.d = m.out.length → w0.heap.size ≤ l.b
def usedSo (w0 : World) (φ : Phi) (n : Nat) (done : List (Nat × Nat)) (b : Nat) : Prop :=
  usedB w0 (φ.below n) b ∨ ∃ r l, r.d = n ∧ (r.s, r.i) ∈ done ∧ φ r = some (some l) ∧ l.b = b
theorem mv1_sound {I' : Imm} {m' : Mem} {ok : Bool} {w0 : World} {all : List V} (E : Ends P I' w φ m m' ok w0 all) (hm : MemOk P I w φ m) (hI : ∀ b o, I b o → I' b o) {c c' : V} {y : Value} (hc : c ∈ all)
    (hr : Rel P I w φ c y) (h : mv1 m ok c = some c') {done : List (Nat × Nat)} (hnew : ok = true → ∀ n ∈ names1 m c, n ∉ done) {U : Nat → Prop} (hU : ∀ b, U b → usedSo w0 φ m.out.length done b) :
    ∃ U', RelR1 P I' w (φ.below m.out.length) U c' y U' ∧ (∀ b, U' b → usedSo w0 φ m.out.length (done ++ names1 m c) b) ∧ c'.isAgg = false ∧ (∀ vs, c' ≠ .tup vs) := by
  have weak : ∀ b, U b → usedSo w0 φ m.out.length (done ++ names1 m c) b := by
    intro b hb
    rcases hU b hb with h1 | ⟨r, l, h1, h2, h3, h4⟩
    · exact .inl h1
    · exact .inr ⟨r, l, h1, by simp [h2], h3, h4⟩
  have pureCase : ∀ v : V, RelP I' w v y → v.transit = false → v.isAgg = false → (∀ vs, v ≠ .tup vs) → c' = v →
      ∃ U', RelR1 P I' w (φ.below m.out.length) U c' y U' ∧ (∀ b, U' b → usedSo w0 φ m.out.length (done ++ names1 m c) b) ∧ c'.isAgg = false ∧ (∀ vs, c' ≠ .tup vs) := by
    intro v hp ht ha htu e
    subst e
    exact ⟨U, .rel (.p hp) ht, weak, ha, htu⟩
  have toP : ∀ {v : V}, Rel P I w φ v y → RelP I w v y → RelP I' w v y := fun _ hp => hp.mono hI (fun _ _ _ _ h => h)
  cases c with
  | rs r ty off len =>
    simp only [mv1] at h
    split at h
    · rename_i row hrow
      split at h
      · rename_i hown
        simp only [Option.some.injEq] at h; subst h
        have ho := hown
        simp only [owned, hrow, Bool.and_eq_true, Bool.or_eq_true, decide_eq_true_eq, Bool.not_eq_true', beq_iff_eq] at ho
        obtain ⟨⟨⟨⟨⟨hok, hd⟩, hfz⟩, ha⟩, hoff⟩, hle⟩ := ho
        have hlen := cut_length row.es off len hle
        have hrow' : m'.row r = some row := by rw [E.keep r ty off len hc hown, hrow]
        rcases rel_rs hr with ⟨hl, rfl, rfl, rfl⟩ | ⟨l, hl, hcap, hz, rfl⟩ | ⟨l, ad, hl, hoff', rfl, rfl⟩
        · have hnil : cut row.es 0 0 = [] := by simp [cut]
          rw [hnil]
          refine ⟨fun b => U b ∨ ownB (.slice none 0 0) = some b, .own (.inl ⟨rfl, rfl⟩) (fun b hb => by simp [ownB] at hb), ?_, rfl, fun _ h => by simp at h⟩
          intro b hb
          rcases hb with hb | hb
          · exact weak b hb
          · simp [ownB] at hb
        · obtain ⟨l', hl', hrok⟩ := E.mem.live r row hrow' (hm.zero r (by rw [hl]; simp))
          rw [hl] at hl'
          have := Option.some.inj hl'
          subst this
          obtain ⟨h1, h2, h3, ⟨cs, t, h4, h4'⟩, h5, h6, h7, h8⟩ := hrok
          have hrok2 : RowOk P I' w (fun _ => none) { g := 1, ty := row.ty, arr := true, fz := false, es := cut row.es off len } (some ⟨l.b, l.base + off * l.z, l.z, l.cap - off⟩) := by
            refine ⟨by simp only [hlen]; omega, h2, h3, ⟨cs, t, h4, ?_⟩, fun j e hj => h5 _ e (cut_get _ _ _ _ _ hj).1, ?_, ?_, ?_⟩
            · simp only
              have : off * l.z + (l.cap - off) * l.z = l.cap * l.z := by rw [← Nat.add_mul]; congr 1; omega
              omega
            · intro j e c v hj hcv
              obtain ⟨x, x1, x2, x3⟩ := h6 _ e c v (cut_get _ _ _ _ _ hj).1 hcv
              refine ⟨x, ?_, x2, ?_⟩
              · simp only
                rw [show l.base + off * l.z + j * l.z + c = l.base + (off + j) * l.z + c by rw [Nat.add_mul]; omega]
                exact x1
              · rw [if_pos ha] at x3
                simpa using x3
            · intro o hb _
              simp only at hb
              exact h7 o (by omega) (fun hf => by rw [hfz] at hf; simp at hf)
            · simp
          refine ⟨fun b => U b ∨ ownB (.slice (some ⟨l.b, l.base + off * l.z, none⟩) len (l.cap - off)) = some b, .own (.inr ⟨⟨l.b, l.base + off * l.z, l.z, l.cap - off⟩, by rw [hlen], hrok2⟩) ?_, ?_, rfl, fun _ h => by simp at h⟩
          · intro b hb hUb
            simp only [ownB, Option.some.injEq] at hb
            subst hb
            rcases hU _ hUb with (hlt | ⟨r1, l1, hr1, hb1⟩) | ⟨r1, l1, hd1, hn1, hr1, hb1⟩
            · have := E.fresh r l hl hd
              omega
            · have hd1 : r1.d < m.out.length := by
                unfold Phi.below at hr1
                split at hr1
                · assumption
                · simp at hr1
              exact hm.dis r1 r l1 l (Phi.below_le _ _ hr1) hl (fun e => by omega) hb1
            · have hin : (r.s, r.i) ∈ names1 m (.rs r ty off len) := by simp [names1, hd]
              have hnd := hnew hok _ hin
              exact hm.dis r1 r l1 l hr1 hl (fun e => hnd (by rw [← e.2.1, ← e.2.2]; exact hn1)) hb1
          · intro b hb
            rcases hb with hb | hb
            · exact weak b hb
            · simp only [ownB, Option.some.injEq] at hb
              exact .inr ⟨r, l, hd, by simp [names1, hd], hl, hb⟩
        · omega
      · rename_i hown
        split at h
        · rename_i hcond
          simp only [Option.some.injEq] at h; subst h
          have hcov := E.cov _ hc (by simpa using hown)
          have hs : snap1 m (.rs r ty off len) = some (.sl (cut row.es off len)) := by simp only [snap1, hrow, hcond, and_self, if_true]
          have := snap1_sound hm hI hr hcov hs
          have hp : RelP I' w (.sl (cut row.es off len)) y := by cases this with | p h => exact h
          exact pureCase _ hp rfl rfl (fun _ h => by simp at h) rfl
        · simp at h
    · simp at h
  | nilS =>
    simp only [mv1, Option.some.injEq] at h
    rw [rel_nilS hr] at *
    exact pureCase (.sl []) .slNil rfl rfl (fun _ h => by simp at h) h.symm
  | ptr r j off =>
    simp only [mv1] at h
    split at h
    · rename_i ho
      simp only [Option.some.injEq] at h; subst h
      exact ⟨U, .rel ((outer_rel hr rfl ho).mono hI (fun _ _ _ _ h => h) (fun _ _ h => h)) rfl, weak, rfl, fun _ h => by simp at h⟩
    · simp at h
  | fn f first cap =>
    simp only [mv1] at h
    split at h
    · rename_i ho
      simp only [Option.some.injEq] at h; subst h
      obtain ⟨xs, ys, rfl, a1, a2, a3, a4⟩ := rel_fn hr
      refine ⟨U, .rel (.fn a1 (fun i v x p q => (a2 i v x p q).mono hI (fun _ _ _ _ h => h)) a3 (fun i v x p q => ?_)) rfl, weak, rfl, fun _ h => by simp at h⟩
      exact (outer_rel (a4 i v x p q) rfl (List.all_eq_true.1 ho v (List.mem_of_getElem? p))).mono hI (fun _ _ _ _ h => h) (fun _ _ h => h)
    · simp at h
  | agg cs => simp [mv1] at h
  | tup vs => simp [mv1] at h
  | own es ty => cases hr with | p h => cases h
  | undef => simp only [mv1, Option.some.injEq] at h; exact pureCase _ (by rw [rel_undef hr]; exact .undef) rfl rfl (fun _ h => by simp at h) h.symm
  | junk =>
    simp only [mv1, Option.some.injEq] at h
    have hp : RelP I w .junk y := by cases hr with | p h => exact h
    exact pureCase _ (toP hr hp) rfl rfl (fun _ h => by simp at h) h.symm
  | bool b => simp only [mv1, Option.some.injEq] at h; exact pureCase _ (by rw [rel_bool hr]; exact .bool _) rfl rfl (fun _ h => by simp at h) h.symm
  | int k n => simp only [mv1, Option.some.injEq] at h; exact pureCase _ (by rw [rel_int hr]; exact .int _ _) rfl rfl (fun _ h => by simp at h) h.symm
  | str s => simp only [mv1, Option.some.injEq] at h; exact pureCase _ (by rw [rel_str hr]; exact .str _) rfl rfl (fun _ h => by simp at h) h.symm
  | nilI => simp only [mv1, Option.some.injEq] at h; exact pureCase _ (by rw [rel_nilI hr]; exact .nilI) rfl rfl (fun _ h => by simp at h) h.symm
  | nilP => simp only [mv1, Option.some.injEq] at h; exact pureCase _ (by rw [rel_nilP hr]; exact .nilP) rfl rfl (fun _ h => by simp at h) h.symm
  | ifc t v =>
    simp only [mv1, Option.some.injEq] at h
    have hp : RelP I w (.ifc t v) y := by cases hr with | p h => exact h
    exact pureCase _ (toP hr hp) rfl rfl (fun _ h => by simp at h) h.symm
  | nilF =>
    simp only [mv1, Option.some.injEq] at h
    have hp : RelP I w .nilF y := by cases hr with | p h => exact h
    exact pureCase _ (toP hr hp) rfl rfl (fun _ h => by simp at h) h.symm
  | cptr e ty off =>
    simp only [mv1, Option.some.injEq] at h
    have hp : RelP I w (.cptr e ty off) y := by cases hr with | p h => exact h
    exact pureCase _ (toP hr hp) rfl rfl (fun _ h => by simp at h) h.symm
  | sl es =>
    simp only [mv1, Option.some.injEq] at h
    have hp : RelP I w (.sl es) y := by cases hr with | p h => exact h
    exact pureCase _ (toP hr hp) rfl rfl (fun _ h => by simp at h) h.symm
theorem mvL_sound {I' : Imm} {m' : Mem} {ok : Bool} {w0 : World} {all : List V} (E : Ends P I' w φ m m' ok w0 all) (hm : MemOk P I w φ m) (hI : ∀ b o, I b o → I' b o) :
    ∀ (cs cs' : List V) (ys : List Value) (done : List (Nat × Nat)) (U : Nat → Prop), (∀ c ∈ cs, c ∈ all) → All2 (Rel P I w φ) cs ys → mvL m ok cs = some cs' →
      (ok = true → (done ++ cs.flatMap (names1 m)).Nodup) → (∀ b, U b → usedSo w0 φ m.out.length done b) →
      ∃ U', RelRL P I' w (φ.below m.out.length) U cs' ys U' ∧ (∀ b, U' b → usedSo w0 φ m.out.length (done ++ cs.flatMap (names1 m)) b)
  | [], cs', ys, done, U, _, hr, h, _, hU => by
    simp only [mvL, Option.some.injEq] at h; subst h
    rw [hr.nil_left]
    exact ⟨U, .nil, by simpa using hU⟩
  | c :: cs, cs', ys, done, U, hall, hr, h, hnd, hU => by
    obtain ⟨y, zs, rfl, h0, ht⟩ := hr.head
    simp only [mvL] at h
    split at h
    · rename_i x xs hx hxs
      simp only [Option.some.injEq] at h; subst h
      have hnew : ok = true → ∀ n ∈ names1 m c, n ∉ done := by
        intro hok n hn hd
        have := hnd hok
        rw [List.nodup_append] at this
        exact this.2.2 n hd n (by simp [hn]) rfl
      obtain ⟨U1, r1, u1, _, _⟩ := mv1_sound E hm hI (hall c (by simp)) h0 hx hnew hU
      obtain ⟨U2, r2, u2⟩ := mvL_sound E hm hI cs xs zs (done ++ names1 m c) U1 (fun v hv => hall v (by simp [hv])) ht hxs (fun hok => by have := hnd hok; simpa [List.append_assoc] using this) u1
      exact ⟨U2, .cons r1 r2, fun b hb => by have := u2 b hb; simpa [List.append_assoc] using this⟩
    · simp at h
theorem mv2_sound {I' : Imm} {m' : Mem} {ok : Bool} {w0 : World} {all : List V} (E : Ends P I' w φ m m' ok w0 all) (hm : MemOk P I w φ m) (hI : ∀ b o, I b o → I' b o) {v v' : V} {y : Value} {done : List (Nat × Nat)} {U : Nat → Prop}
    (hall : ∀ c ∈ leaves2 v, c ∈ all) (hr : Rel P I w φ v y) (h : mv2 m ok v = some v') (hnd : ok = true → (done ++ (leaves2 v).flatMap (names1 m)).Nodup) (hU : ∀ b, U b → usedSo w0 φ m.out.length done b) :
    ∃ U', RelR2 P I' w (φ.below m.out.length) U v' y U' ∧ (∀ b, U' b → usedSo w0 φ m.out.length (done ++ (leaves2 v).flatMap (names1 m)) b) ∧ (∀ vs, v' ≠ .tup vs) := by
  by_cases hag : ∃ cs, v = .agg cs
  · obtain ⟨cs, rfl⟩ := hag
    obtain ⟨xs, rfl, hl, hp, ho⟩ := rel_agg hr
    simp only [mv2] at h
    split at h
    · rename_i hany
      have hlv : leaves2 (.agg cs) = cs := by simp [leaves2, hany]
      rw [hlv] at hall hnd ⊢
      cases hcs : mvL m ok cs with
      | none => simp [hcs] at h
      | some cs' =>
        simp only [hcs, Option.map_some, Option.some.injEq] at h; subst h
        obtain ⟨U', r1, u1⟩ := mvL_sound E hm hI cs cs' xs done U hall ⟨hl, hp⟩ hcs hnd hU
        exact ⟨U', .agg r1 ho, u1, fun _ h => by simp at h⟩
    · rename_i hany
      simp only [Option.some.injEq] at h; subst h
      have hlv : leaves2 (.agg cs) = [] := by simp only [leaves2, if_neg hany]
      rw [hlv]
      have hrefs : (V.agg cs).refs = false := by simpa [V.refs] using hany
      have hpure := pure_of hr hrefs (.inl rfl)
      have hplain : RelRL P I' w (φ.below m.out.length) U cs xs U := by
        have key : ∀ (cs : List V) (xs : List Value), All2 (fun v x => RelP I' w v x ∧ v.transit = false) cs xs → RelRL P I' w (φ.below m.out.length) U cs xs U := by
          intro cs
          induction cs with
          | nil => intro xs h; rw [h.nil_left]; exact .nil
          | cons c cs ih => intro xs h; obtain ⟨x, ys, rfl, h0, ht⟩ := h.head; exact .cons (.rel (.p h0.1) h0.2) (ih ys ht)
        refine key cs xs ⟨hl, fun i v x a b => ?_⟩
        cases hpure with
        | agg _ hc _ =>
          have := hc i v x a b
          refine ⟨this.mono hI (fun _ _ _ _ h => h), ?_⟩
          cases v <;> first | rfl | (cases this)
      exact ⟨U, .agg hplain ho, by simpa using hU, fun _ h => by simp at h⟩
  · have e : mv2 m ok v = mv1 m ok v := by cases v <;> first | rfl | exact absurd ⟨_, rfl⟩ hag
    have hlv : leaves2 v = [v] := by cases v <;> first | rfl | exact absurd ⟨_, rfl⟩ hag
    rw [e] at h
    rw [hlv] at hall hnd ⊢
    have hnew : ok = true → ∀ n ∈ names1 m v, n ∉ done := by
      intro hok n hn hd
      have := hnd hok
      rw [List.nodup_append] at this
      exact this.2.2 n hd n (by simp [hn]) rfl
    obtain ⟨U1, r1, u1, a1, t1⟩ := mv1_sound E hm hI (hall v (by simp)) hr h hnew hU
    exact ⟨U1, .one a1 r1, by simpa using u1, t1⟩
theorem mv2s_sound {I' : Imm} {m' : Mem} {ok : Bool} {w0 : World} {all : List V} (E : Ends P I' w φ m m' ok w0 all) (hm : MemOk P I w φ m) (hI : ∀ b o, I b o → I' b o) :
    ∀ (vs vs' : List V) (ys : List Value) (done : List (Nat × Nat)) (U : Nat → Prop), (∀ v ∈ vs, ∀ c ∈ leaves2 v, c ∈ all) → All2 (Rel P I w φ) vs ys → mv2s m ok vs = some vs' →
      (ok = true → (done ++ (vs.flatMap leaves2).flatMap (names1 m)).Nodup) → (∀ b, U b → usedSo w0 φ m.out.length done b) → ∃ U', RelR2L P I' w (φ.below m.out.length) U vs' ys U'
  | [], vs', ys, done, U, _, hr, h, _, hU => by
    simp only [mv2s, Option.some.injEq] at h; subst h
    rw [hr.nil_left]
    exact ⟨U, .nil⟩
  | v :: vs, vs', ys, done, U, hall, hr, h, hnd, hU => by
    obtain ⟨y, zs, rfl, h0, ht⟩ := hr.head
    simp only [mv2s] at h
    split at h
    · rename_i x xs hx hxs
      simp only [Option.some.injEq] at h; subst h
      obtain ⟨U1, r1, u1, _⟩ := mv2_sound E hm hI (done := done) (hall v (by simp)) h0 hx (fun hok => by
        have := hnd hok
        rw [List.flatMap_cons, List.flatMap_append, ← List.append_assoc, List.nodup_append] at this
        exact this.1) hU
      obtain ⟨U2, r2⟩ := mv2s_sound E hm hI vs xs zs (done ++ (leaves2 v).flatMap (names1 m)) U1 (fun v hv => hall v (by simp [hv])) ht hxs (fun hok => by have := hnd hok; simpa [List.append_assoc] using this) u1
      exact ⟨U2, .cons r1 r2⟩
    · simp at h
theorem leaves2_rel {v : V} {y : Value} (hr : Rel P I w φ v y) : ∀ c ∈ leaves2 v, ∃ x, Rel P I w φ c x := by
  intro c hc
  by_cases hag : ∃ cs, v = .agg cs
  · obtain ⟨cs, rfl⟩ := hag
    obtain ⟨xs, rfl, hl, hp, ho⟩ := rel_agg hr
    have hc' : c ∈ cs := by
      simp only [leaves2] at hc
      split at hc
      · exact hc
      · simp at hc
    obtain ⟨i, hi⟩ := List.mem_iff_getElem?.1 hc'
    obtain ⟨x, _, hx⟩ := All2.get (R := Rel P I w φ) ⟨hl, hp⟩ hi
    exact ⟨x, hx⟩
  · have hlv : leaves2 v = [v] := by cases v <;> first | rfl | exact absurd ⟨_, rfl⟩ hag
    rw [hlv] at hc
    simp only [List.mem_singleton] at hc
    subst hc
    exact ⟨y, hr⟩
theorem leaves_rel {v : V} {y : Value} (hr : Rel P I w φ v y) : ∀ c ∈ leaves v, ∃ x, Rel P I w φ c x := by
  by_cases ht : ∃ vs, v = .tup vs
  · obtain ⟨vs, rfl⟩ := ht
    obtain ⟨xs, rfl, hl, hp⟩ := rel_tup hr
    intro c hc
    obtain ⟨u, hu, hcu⟩ := List.mem_flatMap.1 hc
    obtain ⟨i, hi⟩ := List.mem_iff_getElem?.1 hu
    obtain ⟨x, _, hx⟩ := All2.get (R := Rel P I w φ) ⟨hl, hp⟩ hi
    exact leaves2_rel hx c hcu
  · have hlv : leaves v = leaves2 v := by cases v <;> first | rfl | exact absurd ⟨_, rfl⟩ ht
    rw [hlv]; exact leaves2_rel hr
theorem mv_sound {d : Bool} {I0 : Imm} {w0 : World} {φ0 : Phi} (hm : MemOk P I w φ m) (he : Ext I0 w0 φ0 I w φ) (h0 : ∀ r, φ0 r ≠ none → r.d < m.out.length) {v v' : V} {y : Value} (hr : Rel P I w φ v y) (h : mv d m v = some v') :
    ∃ I' U', Ext I w φ I' w φ ∧ MemOk P I' w φ (frzR d m v) ∧ (frzR d m v).out.length = m.out.length ∧ RelR P I' w (φ.below m.out.length) (usedB w0 (φ.below m.out.length)) v' y U' := by
  obtain ⟨xs, hxs⟩ := all2_of (R := Rel P I w φ) ((leaves v).filter fun c => !owned m (distinct d m v) c) (fun c hc => leaves_rel hr c ((List.mem_filter.1 hc).1))
  obtain ⟨I', m1, e1, c1, s1⟩ := frzL_sound _ xs I m hm hxs
  have hown : ∀ r ty off len, owned m (distinct d m v) (.rs r ty off len) = true → distinct d m v = true ∧ r.d = m.out.length := by
    intro r ty off len h
    simp only [owned] at h
    split at h
    · simp only [Bool.and_eq_true, decide_eq_true_eq] at h
      exact ⟨h.1.1.1.1.1, h.1.1.1.1.2⟩
    · simp at h
  have E : Ends P I' w φ m (frzR d m v) (distinct d m v) w0 (leaves v) := by
    refine ⟨m1, s1, fun c hc ho => c1 c (List.mem_filter.2 ⟨hc, by simp [ho]⟩), ?_, ?_⟩
    · intro r ty off len hmem ho
      refine frzL_keeps _ m (fun c hc r' ty' off' len' ec hsame => ?_)
      obtain ⟨hc1, hc2⟩ := List.mem_filter.1 hc
      subst ec
      obtain ⟨hok, hd⟩ := hown r ty off len ho
      have hnd : (names m v).Nodup := of_decide_eq_true (by simp only [distinct, Bool.and_eq_true] at hok; exact hok.2)
      have hd' : r'.d = m.out.length := by rw [← hsame.1]; exact hd
      have := nodup_flatMap (f := names1 m) (x := (r.s, r.i)) hnd hmem hc1 (by simp [names1, hd]) (by simp [names1, hd', hsame.2.1, hsame.2.2])
      rw [← this] at hc2
      simp [ho] at hc2
    · intro r l hl hd
      rcases he.fresh r l hl with ⟨r0, l0, hr0, _, hd0⟩ | hs
      · have := h0 r0 (by rw [hr0]; simp)
        omega
      · exact hs
  have hnd : distinct d m v = true → ([] ++ (leaves v).flatMap (names1 m)).Nodup := by
    intro hok
    rw [List.nil_append]
    exact of_decide_eq_true (by simp only [distinct, Bool.and_eq_true] at hok; exact hok.2)
  have hU : ∀ b, usedB w0 (φ.below m.out.length) b → usedSo w0 φ m.out.length [] b := fun b hb => .inl hb
  by_cases ht : ∃ vs, v = .tup vs
  · obtain ⟨vs, rfl⟩ := ht
    obtain ⟨ys, rfl, hl, hp⟩ := rel_tup hr
    simp only [mv, mvT] at h
    cases hvs : mv2s m (distinct d m (.tup vs)) vs with
    | none => simp [hvs] at h
    | some vs' =>
      simp only [hvs, Option.map_some, Option.some.injEq] at h; subst h
      obtain ⟨U', r1⟩ := mv2s_sound E hm e1.imm vs vs' ys [] _ (fun u hu c hc => List.mem_flatMap.2 ⟨u, hu, hc⟩) ⟨hl, hp⟩ hvs hnd hU
      exact ⟨I', U', e1, m1, s1.1, .tup r1⟩
  · have hlv : leaves v = leaves2 v := by cases v <;> first | rfl | exact absurd ⟨_, rfl⟩ ht
    have hmv : mv d m v = mv2 m (distinct d m v) v := by unfold mv; cases v <;> first | rfl | exact absurd ⟨_, rfl⟩ ht
    rw [hmv] at h
    rw [hlv] at hnd
    obtain ⟨U', r1, _, t1⟩ := mv2_sound E hm e1.imm (done := []) (fun c hc => by rw [hlv]; exact hc) hr h hnd hU
    exact ⟨I', U', e1, m1, s1.1, .one t1 r1⟩
end
end Go.Ev
namespace Go.Ev
section
variable {X : Env} {I : Imm} {w : World} {φ : Phi} {m : Mem}
def ExtOk (X : Env) : Prop := ∀ f args v, X.ext f args = some v → ∀ (I : Imm) (w : World) (xs : List Value), (∀ b o, I b o → b < w.heap.size) → GlobOk X I w → All2 (RelP I w) args xs →
  Calls X.P f ⟨xs⟩ w (FnPost X.P I w (fun _ => none) [] (.ret v, []))
def CallOk (X : Env) (call : CallF) : Prop := ∀ f args out r, call f args out = some r → ∀ (I : Imm) (w : World) (φ : Phi) (xs : List Value), (∀ b o, I b o → b < w.heap.size) → GlobOk X I w → OutOk X.P I w φ out →
  All2 (Rel X.P I w φ) args xs → Calls X.P f ⟨xs⟩ w (FnPost X.P I w φ out r)
theorem plain1_rel {v : V} {x : Value} {I' : Imm} {w' : World} {φ φ' : Phi} (h : Rel X.P I w φ v x) (hp : v.plain1 = true) : Rel X.P I' w' φ' v x := by
  cases v with
  | bool b => rw [rel_bool h]; exact .p (.bool _)
  | int k n => rw [rel_int h]; exact .p (.int _ _)
  | str s => rw [rel_str h]; exact .p (.str _)
  | ifc t v =>
    obtain ⟨y, rfl, hy⟩ := rel_ifc h
    cases v with
    | int k n => cases hy; exact .p (.ifc (.int _ _))
    | str s => cases hy; exact .p (.ifc (.str _))
    | _ => simp [V.plain1] at hp
  | _ => simp [V.plain1] at hp
theorem plain1_facts {v : V} (hp : v.plain1 = true) : v.transit = false ∧ v.isAgg = false ∧ (∀ vs, v ≠ .tup vs) ∧ ∀ m dst i, inst1 m dst i v = (m, v) := by
  cases v with
  | tup vs => simp [V.plain1] at hp
  | agg vs => simp [V.plain1] at hp
  | own vs ty => simp [V.plain1] at hp
  | _ => exact ⟨rfl, rfl, (fun _ h => by cases h), fun _ _ _ => rfl⟩
theorem plain_r2 {U U' : Nat → Prop} {v : V} {x : Value} {I' : Imm} {w' : World} {φ' : Phi} (h : RelR2 X.P I w φ U v x U') (hp : v.plain1 = true) : Rel X.P I' w' φ' v x := by
  obtain ⟨h1, h2, h3, _⟩ := plain1_facts hp
  cases h with
  | agg => simp [V.isAgg] at h2
  | one a b =>
    cases b with
    | own => simp [V.transit] at h1
    | rel c d => exact plain1_rel c hp
theorem plain_inst2s (dst : Nat) : ∀ (vs : List V) (i : Nat) (m : Mem), vs.all V.plain1 = true → inst2s m dst i vs = (m, vs)
  | [], _, _, _ => rfl
  | v :: vs, i, m, h => by
    simp only [List.all_cons, Bool.and_eq_true] at h
    have e : inst2 m dst i v = (m, v) := by
      have := (plain1_facts h.1).2.2.2 m dst i
      cases v <;> first | exact this | (simp [V.plain1] at h)
    simp only [inst2s, e, plain_inst2s dst vs _ m h.2]
theorem plain_install {v : V} (hp : v.plain = true) (m : Mem) (dst : Nat) : install m dst v = (m, v) := by
  by_cases ht : ∃ vs, v = .tup vs
  · obtain ⟨vs, rfl⟩ := ht
    simp only [install, plain_inst2s dst vs 1000 m hp]
  · have hp1 : v.plain1 = true := by cases v <;> first | exact hp | exact absurd ⟨_, rfl⟩ ht
    have := (plain1_facts hp1).2.2.2 m dst 1000
    cases v <;> first | exact this | (simp [V.plain1] at hp1)
theorem plain_rel {U U' : Nat → Prop} {v : V} {x : Value} {I' : Imm} {w' : World} {φ' : Phi} (h : RelR X.P I w φ U v x U') (hp : v.plain = true) : Rel X.P I' w' φ' v x := by
  cases h with
  | tup a =>
    have key : ∀ (vs : List V) (xs : List Value) (U : Nat → Prop), RelR2L X.P I w φ U vs xs U' → vs.all V.plain1 = true → All2 (Rel X.P I' w' φ') vs xs := by
      intro vs
      induction vs with
      | nil => intro xs U h _; cases h; exact .nil
      | cons v vs ih =>
        intro xs U h hp
        simp only [List.all_cons, Bool.and_eq_true] at hp
        cases h with
        | cons a b => exact .cons (plain_r2 a hp.1) (ih _ _ b hp.2)
    have := key _ _ _ a hp
    exact .tup this.1 this.2
  | one a b =>
    refine plain_r2 b ?_
    cases v <;> first | exact hp | exact absurd rfl (a _)
theorem iso_ext {I1 I2 : Imm} {w' : World} (h : Ext I1 w (fun _ => none) I2 w' (fun _ => none)) (φ : Phi) : Ext I1 w φ I2 w' φ := by
  refine ⟨h.imm, h.cell, fun _ _ h => h, h.hsize, h.os, h.tape, h.output, fun b hb _ => h.block b hb (fun r l hl => by simp at hl), fun r l hl => .inl ⟨r, l, hl, rfl, rfl⟩, ?_, h.plain, h.old⟩
  intro b o hb
  rcases h.immNew b o hb with h1 | ⟨r, l, hl, _⟩ | h1
  · exact .inl h1
  · simp at hl
  · exact .inr (.inr h1)
theorem iso_mem {P : Program} {I1 I2 : Imm} {w' : World} (h : Ext I1 w (fun _ => none) I2 w' (fun _ => none)) (hm : MemOk P I1 w φ m) : MemOk P I2 w' φ m := by
  refine hm.keep h.imm h.cell (fun r loc hl => h.block loc.b (hm.size r loc hl) (fun r l hl => by simp at hl)) (fun r loc o hl hi => ?_) h.hsize
  rcases h.immNew loc.b o hi with h1 | ⟨r, l, hl', _⟩ | h1
  · exact h1
  · simp at hl'
  · have := hm.size r loc hl; omega
theorem all_ext {I2 : Imm} {w' : World} (h : Ext (allI w) w (fun _ => none) I2 w' (fun _ => none)) (hold : ∀ b o, I b o → b < w.heap.size) (φ : Phi) : Ext I w φ I w' φ := by
  refine ⟨fun _ _ h => h, fun b o x hi hx => h.cell b o x (hold b o hi) hx, fun _ _ h => h, h.hsize, h.os, h.tape, h.output, fun b hb _ => h.block b hb (fun r l hl => by simp at hl), fun r l hl => .inl ⟨r, l, hl, rfl, rfl⟩,
    fun b o hb => .inl hb, h.plain, fun ho b o hi => Nat.lt_of_lt_of_le (ho b o hi) h.hsize⟩
theorem all_mem {P : Program} {I2 : Imm} {w' : World} (h : Ext (allI w) w (fun _ => none) I2 w' (fun _ => none)) (hold : ∀ b o, I b o → b < w.heap.size) (hm : MemOk P I w φ m) : MemOk P I w' φ m :=
  hm.keep (fun _ _ h => h) (fun b o x hi hx => h.cell b o x (hold b o hi) hx) (fun r loc hl => h.block loc.b (hm.size r loc hl) (fun r l hl => by simp at hl)) (fun _ _ _ _ hi => hi) h.hsize
theorem out_nil {P : Program} {φ : Phi} {out : List Rows} (h : OutOk P I w φ out) (hl : out.length = 0) : φ = fun _ => none := by
  cases out with
  | nil => funext r; exact h r
  | cons => simp at hl
def CallPost (P : Program) (I : Imm) (w : World) (φ : Phi) (n : Nat) : Res × Mem → Ending → World → Prop
  | (.ret v, m'), .returned x, w' => ∃ I' φ', Ext I w φ I' w' φ' ∧ MemOk P I' w' φ' m' ∧ m'.out.length = n ∧ Rel P I' w' φ' v x
  | (.panic v, m'), .panicked chain, w' => ∃ I' φ' x, chain = [{ v := x, recovered := false }] ∧ Ext I w φ I' w' φ' ∧ MemOk P I' w' φ' m' ∧ m'.out.length = n ∧ Rel P I' w' φ' v x
  | _, _, _ => False
theorem pureArgs {P : Program} {vs : List V} {xs : List Value} (h : All2 (Rel P I w φ) vs xs) (hn : vs.any V.refs = false) : All2 (RelP I w) vs xs :=
  ⟨h.1, fun i v x a b => pureR (h.2 i v x a b) (by simpa using List.any_eq_false.1 hn v (List.mem_of_getElem? a))⟩
theorem iso_take {I1 : Imm} (hIext : Ext I w φ I1 w φ) (hm : MemOk X.P I1 w φ m) (dst : Nat) {v : V} {e : Ending} {w' : World} (h : FnPost X.P I1 w (fun _ => none) [] (.ret v, []) e w' ∨ ∃ out, FnPost X.P I1 w (fun _ => none) [] (.ret v, out) e w') :
    CallPost X.P I w φ m.out.length (.ret (install m dst v).2, (install m dst v).1) e w' := by
  have h' : ∃ out, FnPost X.P I1 w (fun _ => none) [] (.ret v, out) e w' := h.elim (fun h => ⟨_, h⟩) id
  obtain ⟨out, h⟩ := h'
  cases e with
  | returned x =>
    obtain ⟨I2, φ2, U', k1, k2, k3, k4⟩ := h
    have hφ2 := out_nil k2 (by simpa using k3)
    subst hφ2
    have hm2 := iso_mem k1 hm
    have he2 := hIext.trans (iso_ext k1 φ)
    obtain ⟨φ3, t1, t2⟩ := install_sound (P := X.P) (I0 := I) (w0 := w) (φ0 := φ) (n := m.out.length) (U := usedB w fun _ => none) ⟨hm2, he2, fun r l hl => .inl (hm.size r l hl), fun b hb => .inl hb, rfl⟩ (k4.phi (φ' := φ) (fun r l h => by simp at h)) dst
    exact ⟨I2, φ3, t1.ext, t1.mem, t1.len, t2⟩
  | panicked c => exact h.elim
  | outgrown => exact h.elim
theorem doCall_sound {call : CallF} (hcall : CallOk X call) (hext : ExtOk X) {f : FuncId} {args : List V} {xs : List Value} {m' : Mem} {dst : Nat} {r : Res × Mem} (hold : ∀ b o, I b o → b < w.heap.size) (hg : GlobOk X I w)
    (hlen : m'.out.length = m.out.length) (hm : MemOk X.P I w φ m)
    (hargs : (∃ I', Ext I w φ I' w φ ∧ MemOk X.P I' w φ m' ∧ All2 (Rel X.P I' w φ) args xs) ∨ (scalarRes X.P f = true ∧ args.any V.refs = false ∧ m' = m ∧ All2 (Rel X.P (allI w) w φ) args xs))
    (e : doCall X call f args m' dst = some r) : Calls X.P f ⟨xs⟩ w (CallPost X.P I w φ m.out.length r) := by
  have holdA : ∀ b o, allI w b o → b < w.heap.size := fun b o h => h
  have hgA : GlobOk X (allI w) w := by
    refine ⟨fun g h => ?_, fun g v ty h => ?_⟩
    · obtain ⟨k, h1, h2⟩ := hg.1 g h
      exact ⟨k, h1, hold _ _ h2⟩
    obtain ⟨zs, hz⟩ := hg.2 g v ty h
    exact ⟨zs, fun c u hc => ⟨(hz c u hc).1, hold _ _ (hz c u hc).2.1, (hz c u hc).2.2.1, (hz c u hc).2.2.2.mono (fun b o h => hold b o h) (fun _ _ _ _ h => h)⟩⟩
  unfold doCall at e
  split at e
  · rename_i v hv
    split at e
    · rename_i hc
      simp only [Option.some.injEq] at e; subst e
      rcases hargs with ⟨I', e1, m1, a1⟩ | ⟨hs, _, rfl, a1⟩
      · refine Calls.mono (hext f args v hv I' w xs (e1.old hold) (hg.ext e1) (pureArgs a1 hc.1)) (fun e w' h => ?_)
        rw [← hlen]
        exact iso_take e1 m1 dst (.inl h)
      · refine Calls.mono (hext f args v hv (allI w) w xs holdA hgA (pureArgs a1 hc.1)) (fun e w' h => ?_)
        have hp := hc.2 hs
        cases e with
        | returned x =>
          obtain ⟨I2, φ2, U', k1, k2, k3, k4⟩ := h
          have hφ2 := out_nil k2 (by simp)
          subst hφ2
          rw [plain_install hp]
          exact ⟨I, φ, all_ext k1 hold φ, all_mem k1 hold hm, rfl, plain_rel k4 hp⟩
        | panicked c => exact h.elim
        | outgrown => exact h.elim
    · simp at e
  · rename_i hv
    split at e
    · rename_i hrefs
      rcases hargs with ⟨I', e1, m1, a1⟩ | ⟨_, hs, _, _⟩
      rotate_left
      · rw [hs] at hrefs; simp at hrefs
      have hout : OutOk X.P I' w φ (m'.own :: m'.out) := m1
      split at e
      · rename_i v own out hcl
        split at e
        rotate_left
        · simp at e
        simp only [Option.some.injEq] at e; subst e
        refine Calls.mono (hcall f args _ _ hcl I' w φ xs (e1.old hold) (hg.ext e1) hout a1) (fun e w' h => ?_)
        cases e with
        | returned x =>
          obtain ⟨I2, φ2, U', k1, k2, k3, k4⟩ := h
          have hl2 : out.length = m.out.length := by simp at k3; omega
          obtain ⟨φ3, t1, t2⟩ := install_sound (P := X.P) (I0 := I) (w0 := w) (φ0 := φ) (n := m.out.length) (m := ⟨own, out⟩) ⟨k2, e1.trans k1, fun r l hl => .inr ⟨r, l, hl, rfl⟩, fun b hb => .inl hb, hl2⟩ k4 dst
          exact ⟨I2, φ3, t1.ext, t1.mem, t1.len, t2⟩
        | panicked c => exact h.elim
        | outgrown => exact h.elim
      · rename_i v own out hcl
        split at e
        rotate_left
        · simp at e
        simp only [Option.some.injEq] at e; subst e
        refine Calls.mono (hcall f args _ _ hcl I' w φ xs (e1.old hold) (hg.ext e1) hout a1) (fun e w' h => ?_)
        cases e with
        | returned x => exact h.elim
        | panicked c =>
          obtain ⟨I2, φ2, x, hc, k1, k2, k3, k4⟩ := h
          have hl2 : out.length = m.out.length := by simp at k3; omega
          exact ⟨I2, φ2, x, hc, e1.trans k1, k2, hl2, k4⟩
        | outgrown => exact h.elim
      · simp at e
    · rename_i hrefs
      have hrefs : args.any V.refs = false := by simpa using hrefs
      have pureRel : ∀ I1 : Imm, All2 (Rel X.P I1 w φ) args xs → All2 (Rel X.P I1 w (fun _ => none)) args xs := fun I1 h => (pureArgs h hrefs).mono fun _ _ h => .p h
      have hnone : ∀ I1 : Imm, OutOk X.P I1 w (fun _ => none) [] := fun I1 r => rfl
      split at e
      · rename_i v out hcl
        split at e
        · rename_i hpl
          simp only [Option.some.injEq] at e; subst e
          rcases hargs with ⟨I', e1, m1, a1⟩ | ⟨hs, _, rfl, a1⟩
          · refine Calls.mono (hcall f args _ _ hcl I' w (fun _ => none) xs (e1.old hold) (hg.ext e1) (hnone _) (pureRel _ a1)) (fun e w' h => ?_)
            rw [← hlen]
            exact iso_take e1 m1 dst (.inr ⟨_, h⟩)
          · refine Calls.mono (hcall f args _ _ hcl (allI w) w (fun _ => none) xs holdA hgA (hnone _) (pureRel _ a1)) (fun e w' h => ?_)
            have hp := hpl hs
            cases e with
            | returned x =>
              obtain ⟨I2, φ2, U', k1, k2, k3, k4⟩ := h
              have hφ2 := out_nil k2 (by simpa using k3)
              subst hφ2
              rw [plain_install hp]
              exact ⟨I, φ, all_ext k1 hold φ, all_mem k1 hold hm, rfl, plain_rel k4 hp⟩
            | panicked c => exact h.elim
            | outgrown => exact h.elim
        · simp at e
      · rename_i v out hcl
        split at e
        · rename_i hpl
          simp only [Option.some.injEq] at e; subst e
          rcases hargs with ⟨I', e1, m1, a1⟩ | ⟨hs, _, rfl, a1⟩
          · refine Calls.mono (hcall f args _ _ hcl I' w (fun _ => none) xs (e1.old hold) (hg.ext e1) (hnone _) (pureRel _ a1)) (fun e w' h => ?_)
            cases e with
            | returned x => exact h.elim
            | panicked c =>
              obtain ⟨I2, φ2, x, hc, k1, k2, k3, k4⟩ := h
              have hφ2 := out_nil k2 (by simpa using k3)
              subst hφ2
              exact ⟨I2, φ, x, hc, e1.trans (iso_ext k1 φ), iso_mem k1 m1, hlen, k4.phi (fun r l h => by simp at h)⟩
            | outgrown => exact h.elim
          · refine Calls.mono (hcall f args _ _ hcl (allI w) w (fun _ => none) xs holdA hgA (hnone _) (pureRel _ a1)) (fun e w' h => ?_)
            have hp := hpl hs
            cases e with
            | returned x => exact h.elim
            | panicked c =>
              obtain ⟨I2, φ2, x, hc, k1, k2, k3, k4⟩ := h
              have hφ2 := out_nil k2 (by simpa using k3)
              subst hφ2
              exact ⟨I, φ, x, hc, all_ext k1 hold φ, all_mem k1 hold hm, rfl, plain1_rel k4 hp⟩
            | outgrown => exact h.elim
        · simp at e
      · simp at e
end
end Go.Ev
namespace Go.Ev
section
variable {X : Env} {I : Imm} {w : World} {φ : Phi} {m : Mem}
def DfsOk (P : Program) (I : Imm) (w : World) (φ : Phi) : List (FuncId × List V) → List Deferred → Prop
  | [], [] => True
  | (f, cap) :: ds, d :: dd => (∃ ys : List Value, d = { target := .fn (.func f) ⟨ys⟩, args := #[] } ∧ All2 (Rel P I w φ) cap ys) ∧ DfsOk P I w φ ds dd
  | _, _ => False
theorem DfsOk.ext {P : Program} {I' : Imm} {w' : World} {φ' : Phi} (h : Ext I w φ I' w' φ') : ∀ {ds : List (FuncId × List V)} {dd : List Deferred}, DfsOk P I w φ ds dd → DfsOk P I' w' φ' ds dd
  | [], [], _ => trivial
  | (_, _) :: _, _ :: _, ⟨⟨ys, e, a⟩, t⟩ => ⟨⟨ys, e, a.mono fun _ _ hr => hr.ext h⟩, DfsOk.ext h t⟩
  | [], _ :: _, h' => h'.elim
  | _ :: _, [], h' => h'.elim
structure StOk (X : Env) (I : Imm) (w : World) (φ : Phi) (n L : Nat) (st : St) (a : Act) : Prop where
  mem : MemOk X.P I w φ st.m
  tm : TmOk X I w φ st.t a
  size : a.tmps.size = n
  dfs : DfsOk X.P I w φ st.dfs a.defers
  glob : GlobOk X I w
  old : ∀ b o, I b o → b < w.heap.size
  len : st.m.out.length = L
def OutQ (X : Env) (I0 : Imm) (w0 : World) (φ0 : Phi) (n L : Nat) (r : Out × St) (e : Exit) (a : Act) (w : World) : Prop :=
  ∃ I φ, Ext I0 w0 φ0 I w φ ∧ StOk X I w φ n L r.2 a ∧
    match r.1, e with
    | .normal, .normal => True
    | .exit i, .exit j => i = j
    | .ret, .ret => True
    | .panic v, .panic chain => ∃ x, chain = [{ v := x, recovered := false }] ∧ Rel X.P I w φ v x
    | _, _ => False
theorem StOk.put {n L : Nat} {st : St} {a : Act} {m' : Mem} {I' : Imm} {w' : World} {φ' : Phi} (h : StOk X I w φ n L st a) (he : Ext I w φ I' w' φ') (hm : MemOk X.P I' w' φ' m') (hl : m'.out.length = L) {dst : Option Nat} (hd : ∀ d, dst = some d → d < n)
    {v : V} {x : Value} (hr : Rel X.P I' w' φ' v x) : StOk X I' w' φ' n L { st with t := Ev.put st.t dst v, m := m' } (a.put dst x) := by
  have htm : TmOk X I' w' φ' (Ev.put st.t dst v) (a.put dst x) := by
    cases dst with
    | none => exact fun i => (h.tm i).ext he
    | some d =>
      have hdn := hd d rfl
      intro i
      simp only [Ev.put, Act.put]
      by_cases hi : i = d
      · subst hi
        rw [Tm.get_set_same]
        have hsz := h.size
        have hlt : i < a.tmps.size := by omega
        have : (a.tmps.setIfInBounds i x).getD i Go.undef = x := by simp [hlt]
        rw [this]; exact hr
      · rw [Tm.get_set_ne _ _ _ _ hi]
        have : (a.tmps.setIfInBounds d x).getD i Go.undef = a.tmps.getD i Go.undef := by
          simp [Array.getElem?_setIfInBounds_ne (Ne.symm hi)]
        rw [this]; exact (h.tm i).ext he
  refine ⟨hm, htm, ?_, ?_, h.glob.ext he, he.old h.old, hl⟩
  · cases dst <;> simp [Act.put, h.size]
  · have := h.dfs.ext he
    cases dst <;> exact this
theorem StOk.ext {n L : Nat} {st : St} {a : Act} {m' : Mem} {I' : Imm} {w' : World} {φ' : Phi} (h : StOk X I w φ n L st a) (he : Ext I w φ I' w' φ') (hm : MemOk X.P I' w' φ' m') (hl : m'.out.length = L) : StOk X I' w' φ' n L { st with m := m' } a :=
  ⟨hm, fun i => (h.tm i).ext he, h.size, h.dfs.ext he, h.glob.ext he, he.old h.old, hl⟩
theorem wanted_ok {n L : Nat} {st : St} {a : Act} (h : StOk X I w φ n L st a) (ops : Array Oper) (o : Oper) : wantedV ops st.t o = Region.wanted o (yielded ops a.tmps) := by
  unfold wantedV Region.wanted
  cases o.guard with
  | none => rfl
  | some g =>
    obtain ⟨j, want⟩ := g
    simp only [yielded]
    cases hd : (ops[j]?).bind (·.dst) with
    | none => simp
    | some d =>
      have hr := h.tm d
      simp only [Option.bind_some]
      cases hv : st.t.get d with
      | bool b =>
        rw [hv] at hr
        have hb := rel_bool hr
        have : a.tmps[d]? = some (.bool b) := by
          cases ht : a.tmps[d]? with
          | none => rw [Array.getD_eq_getD_getElem?, ht] at hb; simp [Go.undef] at hb
          | some y => rw [Array.getD_eq_getD_getElem?, ht] at hb; simp at hb; rw [hb]
        rw [this]
        cases b <;> cases want <;> rfl
      | _ =>
        have hn : ∀ b, a.tmps[d]? ≠ some (.bool b) := by
          intro b hb
          have hb' : a.tmps.getD d Go.undef = .bool b := by rw [Array.getD_eq_getD_getElem?, hb]; rfl
          rw [hv, hb'] at hr
          cases hr with
          | p h => cases h <;> rename_i hn <;> exact hn b rfl
        simp only
        first
          | rfl
          | (split
             · rename_i b hb; exact absurd hb (hn b)
             · rfl)
theorem upon_sound {call : CallF} (hcall : CallOk X call) (hext : ExtOk X) {n L : Nat} {st : St} {a : Act} (h : StOk X I w φ n L st a) {o : Oper} (hd : ∀ d, o.dst = some d → d < n) {r : OpR} (e : evOp X st.m st.t o = some r)
    {next : Act → World → Prop} {Q : Exit → Act → World → Prop}
    (hv : ∀ v m, r = .val v m → ∀ a' w' I' φ', Ext I w φ I' w' φ' → StOk X I' w' φ' n L { st with t := put st.t o.dst v, m } a' → next a' w')
    (hs : ∀ m, r = .skip m → ∀ a' w' I' φ', Ext I w φ I' w' φ' → StOk X I' w' φ' n L { st with t := put st.t o.dst .undef, m } a' → next a' w')
    (hc : ∀ f args m, r = .call f args m → ∃ res, doCall X call f args m (o.dst.getD 0) = some res ∧
      (∀ v m', res = (.ret v, m') → ∀ a' w' I' φ', Ext I w φ I' w' φ' → StOk X I' w' φ' n L { st with t := put st.t o.dst v, m := m' } a' → next a' w') ∧
      (∀ v m', res = (.panic v, m') → ∀ w' I' φ' x, Ext I w φ I' w' φ' → StOk X I' w' φ' n L { st with m := m' } a → Rel X.P I' w' φ' v x → Q (.panic [{ v := x, recovered := false }]) a w'))
    (hdf : ∀ f cap, r = .defer f cap → ∀ a', StOk X I w φ n L { st with t := put st.t o.dst .undef, dfs := (f, cap) :: st.dfs } a' → next a' w)
    (hp : ∀ v, r = .panic v → ∀ x, Rel X.P I w φ v x → Q (.panic [{ v := x, recovered := false }]) a w) :
    o.upon X.P a next Q ((execOp a.eval o).run X.P w) := by
  have hpost := evOp_sound h.mem h.old h.tm h.glob e
  cases r with
  | val v m' =>
    obtain ⟨x, w', I', φ', hrun, he, hm', hr, hl⟩ := hpost
    rw [hrun]
    exact hv v m' rfl _ _ I' φ' he (h.put he hm' (by rw [hl]; exact h.len) hd hr)
  | skip m' =>
    obtain ⟨w', I', φ', hrun, he, hm', hl⟩ := hpost
    rw [hrun]
    exact hs m' rfl _ _ I' φ' he (h.put he hm' (by rw [hl]; exact h.len) hd (.p .undef))
  | call f args m' =>
    obtain ⟨hok, xs, hrun, hl, hargs⟩ := hpost
    rw [hrun]
    obtain ⟨res, hdo, hret, hpan⟩ := hc f args m' rfl
    have hcalls := doCall_sound hcall hext h.old h.glob hl h.mem hargs hdo
    simp only [Oper.upon]
    refine Calls.mono hcalls (fun e w' hpost => ?_)
    obtain ⟨rr, m''⟩ := res
    cases rr with
    | ret v =>
      cases e with
      | returned x =>
        obtain ⟨I', φ', he, hm', hl', hr⟩ := hpost
        exact hret v m'' rfl _ _ I' φ' he (h.put he hm' (by rw [hl']; exact h.len) hd hr)
      | panicked c => exact hpost.elim
      | outgrown => exact hpost.elim
    | panic v =>
      cases e with
      | returned x => exact hpost.elim
      | panicked c =>
        obtain ⟨I', φ', x, rfl, he, hm', hl', hr⟩ := hpost
        exact hpan v m'' rfl _ I' φ' x he (h.ext he hm' (by rw [hl']; exact h.len)) hr
      | outgrown => exact hpost.elim
  | defer f cap =>
    obtain ⟨ys, hrun, hr⟩ := hpost
    rw [hrun]
    simp only [Oper.upon]
    refine hdf f cap rfl _ ?_
    have := h.put (Ext.refl _ _ _) h.mem h.len hd (v := .undef) (x := Go.undef) (.p .undef)
    have hdfs : DfsOk X.P I w φ ((f, cap) :: st.dfs) ({ target := .fn (.func f) ⟨ys⟩, args := #[] } :: a.defers) := ⟨⟨ys, rfl, hr⟩, h.dfs⟩
    cases ho : o.dst with
    | none =>
      rw [ho] at this
      exact ⟨this.mem, this.tm, this.size, hdfs, this.glob, this.old, this.len⟩
    | some d =>
      rw [ho] at this
      exact ⟨this.mem, this.tm, this.size, hdfs, this.glob, this.old, this.len⟩
  | panic v =>
    obtain ⟨x, hrun, hr⟩ := hpost
    rw [hrun]
    exact hp v rfl x hr
theorem skip_ok {n L : Nat} {st : St} {a : Act} (h : StOk X I w φ n L st a) {dst : Option Nat} (hd : ∀ d, dst = some d → d < n) : StOk X I w φ n L { st with t := put st.t dst .undef } (a.put dst Go.undef) :=
  h.put (Ext.refl _ _ _) h.mem h.len hd (.p .undef)
theorem evOps_sound {call : CallF} (hcall : CallOk X call) (hext : ExtOk X) {n L : Nat} (ops : Array Oper) {I0 : Imm} {w0 : World} {φ0 : Phi} {r : Out × St} :
    ∀ (l : List Oper) (st : St) (I : Imm) (w : World) (φ : Phi) (a : Act), (∀ o ∈ l, ∀ d, o.dst = some d → d < n) → Ext I0 w0 φ0 I w φ → StOk X I w φ n L st a → evOps X call ops l st = some r →
      wpList X.P ops (OutQ X I0 w0 φ0 n L r) l a w
  | [], st, I, w, φ, a, _, he, h, e => by
    simp only [evOps, Option.some.injEq] at e; subst e
    exact ⟨I, φ, he, h, trivial⟩
  | o :: rest, st, I, w, φ, a, hd, he, h, e => by
    have hd0 := hd o (by simp)
    have ih := fun st' I' w' φ' a' => evOps_sound hcall hext (L := L) ops (I0 := I0) (w0 := w0) (φ0 := φ0) (r := r) rest st' I' w' φ' a' (fun o ho => hd o (by simp [ho]))
    rw [evOps] at e
    rw [wpList, ← wanted_ok h]
    split at e
    · rename_i hw
      rw [if_pos hw]
      left
      cases ho : evOp X st.m st.t o with
      | none => simp [ho] at e
      | some rr =>
        rw [ho] at e
        refine upon_sound hcall hext h hd0 ho ?_ ?_ ?_ ?_ ?_
        · rintro v m rfl a' w' I' φ' he' h'
          exact ih _ _ _ _ _ (he.trans he') h' e
        · rintro m rfl a' w' I' φ' he' h'
          exact ih _ _ _ _ _ (he.trans he') h' e
        · rintro f args m rfl
          simp only at e
          cases hdo : doCall X call f args m (o.dst.getD 0) with
          | none => simp [hdo] at e
          | some res =>
            refine ⟨res, rfl, ?_, ?_⟩
            · rintro v m' rfl a' w' I' φ' he' h'
              simp only [hdo] at e
              exact ih _ _ _ _ _ (he.trans he') h' e
            · rintro v m' rfl w' I' φ' x he' h' hr
              simp only [hdo, Option.some.injEq] at e; subst e
              exact ⟨I', φ', he.trans he', h', x, rfl, hr⟩
        · rintro f cap rfl a' h'
          exact ih _ _ _ _ _ he h' e
        · rintro v rfl x hr
          simp only [Option.some.injEq] at e; subst e
          exact ⟨I, φ, he, h, x, rfl, hr⟩
    · rename_i hw
      rw [if_neg hw]
      exact ih _ _ _ _ _ he (skip_ok h hd0) e
end
end Go.Ev
namespace Go.Ev
section
variable {X : Env} {I : Imm} {w : World} {φ : Phi} {m : Mem}
def DrawSound (X : Env) (call : CallF) : Prop := ∀ (id : Nat) (ops : Array Oper) (n L : Nat) (st st' : St) (I : Imm) (w : World) (φ : Phi) (a : Act), drawOk ops = true → (∀ o ∈ ops.toList, ∀ d, o.dst = some d → d < n) →
  StOk X I w φ n L st a → evOpsD X call ops (deps ops.toList) 0 [] ops.toList st = some st' → (Code.region id ops true).wp X.P (OutQ X I w φ n L (.normal, st')) a w
def CodeSound (X : Env) (k : Nat) : Prop := ∀ (c : Code) (st : St) (r : Out × St) (n L : Nat) (I : Imm) (w : World) (φ : Phi) (a : Act), codeOk n c = true → StOk X I w φ n L st a → evC X k c st = some r →
  c.wp X.P (OutQ X I w φ n L r) a w
theorem OutQ.back {n L : Nat} {r : Out × St} {e : Exit} {a : Act} {w0 w' : World} {I0 : Imm} {φ0 : Phi} (he : Ext I0 w0 φ0 I w φ) (h : OutQ X I w φ n L r e a w') : OutQ X I0 w0 φ0 n L r e a w' := by
  obtain ⟨I', φ', k1, k2, k3⟩ := h
  exact ⟨I', φ', he.trans k1, k2, k3⟩
theorem regionOk {n : Nat} {id : Nat} {ops : Array Oper} {b : Bool} (h : codeOk n (.region id ops b) = true) : ∀ o ∈ ops.toList, ∀ d, o.dst = some d → d < n := by
  intro o ho d hd
  simp only [codeOk, List.all_eq_true] at h
  have := h o ho
  rw [hd] at this
  simpa using this
theorem exists_least {p : Nat → Prop} (h : ∃ j, p j) : ∃ j, p j ∧ ∀ i, p i → j ≤ i := by
  obtain ⟨j, hj⟩ := h
  induction j using Nat.strongRecOn with
  | _ j ih =>
    by_cases hs : ∃ i, i < j ∧ p i
    · obtain ⟨i, hi, hp⟩ := hs
      exact ih i hi hp
    · refine ⟨j, hj, fun i hp => ?_⟩
      rcases Nat.lt_or_ge i j with h | h
      · exact absurd ⟨i, h, hp⟩ hs
      · exact h
theorem code_zero : CodeSound X 0 := fun c st r n L I w φ a _ _ e => by simp [evC] at e
theorem code_succ {k : Nat} (hc : CodeSound X k) (hloop : ∀ j, j ≤ k → CodeSound X j) (hcall : CallOk X (evFn X k)) (hext : ExtOk X) (hdraw : DrawSound X (evFn X k)) : CodeSound X (k + 1) := by
  intro c st r n L I w φ a hok h e
  cases c with
  | skip =>
    simp only [evC, Option.some.injEq] at e; subst e
    exact wp_skip ⟨I, φ, Ext.refl _ _ _, h, trivial⟩
  | label l =>
    simp only [evC, Option.some.injEq] at e; subst e
    exact wp_label ⟨I, φ, Ext.refl _ _ _, h, trivial⟩
  | seq x y =>
    simp only [codeOk, Bool.and_eq_true] at hok
    simp only [evC] at e
    refine wp_seq ?_
    split at e
    · rename_i st' hx
      refine wp_mono (hc x st _ n L I w φ a hok.1 h hx) (fun ex a' w' hq => ?_)
      obtain ⟨I', φ', k1, k2, k3⟩ := hq
      cases ex <;> simp only at k3 <;> first
        | exact wp_mono (hc y st' r n L I' w' φ' a' hok.2 k2 e) (fun _ _ _ h => h.back k1)
        | exact k3.elim
    · rename_i hx
      have hne : ∀ s, r ≠ (.normal, s) := fun s hs => by
        subst hs
        exact hx s e
      refine wp_mono (hc x st r n L I w φ a hok.1 h e) (fun ex a' w' hq => ?_)
      cases ex with
      | normal =>
        obtain ⟨I', φ', k1, k2, k3⟩ := hq
        obtain ⟨o, s⟩ := r
        cases o <;> first | exact absurd rfl (hne s) | exact k3.elim
      | _ => exact hq
  | cond c x y =>
    simp only [codeOk, Bool.and_eq_true] at hok
    simp only [evC] at e
    have hv := opd_rel h.tm h.glob c
    split at e
    · rename_i hb
      rw [hb] at hv
      exact wp_cond_true (rel_bool hv) (hc x st r n L I w φ a hok.1 h e)
    · rename_i hb
      rw [hb] at hv
      exact wp_cond_false (rel_bool hv) (hc y st r n L I w φ a hok.2 h e)
    · simp at e
  | block id c =>
    simp only [codeOk] at hok
    simp only [evC] at e
    refine wp_block ?_
    split at e
    · rename_i i st' hx
      refine wp_mono (hc c st _ n L I w φ a hok h hx) (fun ex a' w' hq => ?_)
      obtain ⟨I', φ', k1, k2, k3⟩ := hq
      cases ex <;> simp only at k3 <;> try exact k3.elim
      rename_i j
      subst k3
      simp only [Exit.inBlock]
      split at e
      · rename_i hi
        rw [if_pos hi]
        simp only [Option.some.injEq] at e; subst e
        exact ⟨I', φ', k1, k2, trivial⟩
      · rename_i hi
        rw [if_neg hi]
        simp only [Option.some.injEq] at e; subst e
        exact ⟨I', φ', k1, k2, rfl⟩
    · rename_i hx
      have hne : ∀ i s, r ≠ (.exit i, s) := fun i s hs => by
        subst hs
        exact hx i s e
      refine wp_mono (hc c st r n L I w φ a hok h e) (fun ex a' w' hq => ?_)
      cases ex with
      | exit i =>
        obtain ⟨I', φ', k1, k2, k3⟩ := hq
        obtain ⟨o, s⟩ := r
        cases o <;> first | exact absurd rfl (hne _ s) | exact k3.elim
      | _ => exact hq
  | loop c =>
    simp only [codeOk] at hok
    let Inv : Nat → Act → World → Prop := fun j a' w' => j ≤ k + 1 ∧ ∃ st' I' φ', Ext I w φ I' w' φ' ∧ StOk X I' w' φ' n L st' a' ∧ evC X j (.loop c) st' = some r
    let μ : Act → World → Nat := fun a' w' => @dite _ (∃ j, Inv j a' w') (Classical.propDecidable _) (fun hh => Classical.choose (exists_least hh)) (fun _ => 0)
    refine wp_loop (fun a' w' => ∃ j, Inv j a' w') μ ⟨k + 1, Nat.le_refl _, st, I, φ, Ext.refl _ _ _, h, e⟩ (fun a1 w1 hI => ?_)
    have hmin := (Classical.choose_spec (exists_least hI)).1
    have hμ : μ a1 w1 = Classical.choose (exists_least hI) := by simp only [μ, dif_pos hI]
    generalize hj : Classical.choose (exists_least hI) = j at hmin hμ
    obtain ⟨hjk, st1, I1, φ1, k1, k2, k3⟩ := hmin
    cases j with
    | zero => simp [evC] at k3
    | succ j =>
      simp only [evC] at k3
      split at k3
      · rename_i st2 hx
        refine wp_mono (hloop j (by omega) c st1 _ n L I1 w1 φ1 a1 hok k2 hx) (fun ex a' w' hq => ?_)
        obtain ⟨I2, φ2, q1, q2, q3⟩ := hq
        cases ex <;> simp only at q3 <;> try exact q3.elim
        have hInv : Inv j a' w' := ⟨by omega, st2, I2, φ2, k1.trans q1, q2, k3⟩
        refine ⟨⟨j, hInv⟩, ?_⟩
        rw [hμ]
        have : μ a' w' ≤ j := by
          simp only [μ]
          rw [dif_pos ⟨j, hInv⟩]
          exact (Classical.choose_spec (exists_least (p := fun j => Inv j a' w') ⟨j, hInv⟩)).2 j hInv
        omega
      · rename_i hx
        have hne : ∀ s, r ≠ (.normal, s) := fun s hs => by
          subst hs
          exact hx s k3
        refine wp_mono (hloop j (by omega) c st1 r n L I1 w1 φ1 a1 hok k2 k3) (fun ex a' w' hq => ?_)
        cases ex with
        | normal =>
          obtain ⟨I', φ', _, _, q3⟩ := hq
          obtain ⟨o, s⟩ := r
          cases o <;> first | exact absurd rfl (hne s) | exact q3.elim
        | _ => exact hq.back k1
  | exit id =>
    simp only [evC, Option.some.injEq] at e; subst e
    exact wp_exit ⟨I, φ, Ext.refl _ _ _, h, rfl⟩
  | ret =>
    simp only [evC, Option.some.injEq] at e; subst e
    exact wp_ret ⟨I, φ, Ext.refl _ _ _, h, trivial⟩
  | region id ops b =>
    have hd := regionOk hok
    cases b with
    | false =>
      simp only [evC] at e
      exact wp_region_list (evOps_sound hcall hext ops ops.toList st I w φ a hd (Ext.refl _ _ _) h e)
    | true =>
      simp only [evC] at e
      split at e
      · rename_i hdo
        split at e
        · rename_i st' hx
          simp only [Option.some.injEq] at e; subst e
          exact hdraw id ops n L st st' I w φ a hdo hd h hx
        · simp at e
      · simp at e
  | _ => simp [evC] at e
end
end Go.Ev
namespace Go.Ev
section
variable {X : Env} {I : Imm} {w : World} {φ : Phi} {m : Mem}
def resCell (a : Act) : ResultVar → Sem Value
  | .tmp t => pure (a.tmps.getD t Go.undef)
  | .cell c t => do loadVar t (← asAddr (a.tmps.getD c Go.undef))
theorem resVar_sound {st : St} {n L : Nat} {a : Act} (h : StOk X I w φ n L st a) {rv : ResultVar} {v : V} (e : resVar X st.m st.t rv = some v) :
    ∃ x, (resCell a rv).run X.P w = .ok x w ∧ Rel X.P I w φ v x := by
  cases rv with
  | tmp i =>
    simp only [resVar, Option.some.injEq] at e; subst e
    exact ⟨_, rfl, h.tm i⟩
  | cell c ty =>
    simp only [resVar] at e
    have hx := h.tm c
    split at e
    · rename_i r0 j off h0
      rw [h0] at hx
      obtain ⟨l, hl, he⟩ := rel_ptr hx
      split at e
      · rename_i row hrow
        split at e
        · rename_i el hel
          obtain ⟨l', hl', hok⟩ := h.mem.live r0 row hrow (h.mem.zero r0 (by rw [hl]; simp))
          rw [hl] at hl'
          have := Option.some.inj hl'
          subst this
          obtain ⟨_, _, _, _, _, g6, _, _⟩ := hok
          obtain ⟨y, hy, hr⟩ := load_sound (P := X.P) (I := I) (φ := φ) (b := l.b) (o := l.base + j * l.z) (fun c u hc => by
            obtain ⟨z, z1, z2, z3⟩ := g6 j el c u hel hc
            refine ⟨z, z1, z2, ?_⟩
            split at z3
            · exact .p z3
            · exact z3.mono (fun _ _ h => h) (fun _ _ _ _ h => h) Phi.upto_le) e
          refine ⟨y, ?_, hr⟩
          simp only [resCell, he, asAddr, Sem.run_bind, Sem.run_pure, Result.andThen_ok, hy]
        · simp at e
      · simp at e
    · simp at e
theorem resVars_sound {st : St} {n L : Nat} {a : Act} (h : StOk X I w φ n L st a) : ∀ (rs : List ResultVar) (vs : List V), resVars X st.m st.t rs = some vs →
    ∃ xs, (rs.mapM (resCell a)).run X.P w = .ok xs w ∧ All2 (Rel X.P I w φ) vs xs
  | [], vs, e => by
    simp only [resVars, Option.some.injEq] at e; subst e
    exact ⟨[], by simp, .nil⟩
  | rv :: rs, vs, e => by
    simp only [resVars] at e
    split at e
    · rename_i x xs hx hxs
      simp only [Option.some.injEq] at e; subst e
      obtain ⟨y, y1, y2⟩ := resVar_sound h hx
      obtain ⟨ys, z1, z2⟩ := resVars_sound h rs xs hxs
      refine ⟨y :: ys, ?_, .cons y2 z2⟩
      simp only [List.mapM_cons, Sem.run_bind, y1, z1, Result.andThen_ok, Sem.run_pure]
    · simp at e
theorem results_sound {st : St} {n L : Nat} {a : Act} (h : StOk X I w φ n L st a) {fn : Func} {vs : List V} (e : resVars X st.m st.t fn.results.toList = some vs) :
    ∃ x, (results fn a.tmps).run X.P w = .ok x w ∧ Rel X.P I w φ (resOf vs) x := by
  obtain ⟨xs, h1, h2⟩ := resVars_sound h _ vs e
  have hmap : ∀ F : ResultVar → Sem Value, (∀ rv, F rv = resCell a rv) → (fn.results.toList.mapM F).run X.P w = .ok xs w := fun F hF => by rw [show F = resCell a from funext hF]; exact h1
  have hrun : (results fn a.tmps).run X.P w = .ok (if h : xs.toArray.size = 1 then xs.toArray[0] else .tuple xs.toArray) w := by
    unfold results
    simp only [Array.mapM_eq_mapM_toList, Sem.run_bind, Sem.run_map]
    rw [hmap _ (fun rv => by cases rv <;> rfl)]
    rfl
  refine ⟨_, hrun, ?_⟩
  cases vs with
  | nil => rw [h2.nil_left]; exact .tup rfl (fun i v x a _ => by simp at a)
  | cons v vs =>
    obtain ⟨x, ys, rfl, h0, ht⟩ := h2.head
    cases vs with
    | nil => rw [ht.nil_left]; exact h0
    | cons v' vs' =>
      obtain ⟨x', ys', rfl, h0', ht'⟩ := ht.head
      have hne : ¬ ((x :: x' :: ys').toArray.size = 1) := by simp
      rw [dif_neg hne]
      have := h2
      exact .tup this.1 this.2
theorem setAll_get : ∀ (args : List V) (k : Nat) (t : Tm) (i : Nat), (setAll t k args).get i = if k ≤ i ∧ i < k + args.length then (args[i - k]?).getD .undef else t.get i
  | [], k, t, i => by
    rw [setAll, if_neg]
    intro h
    have := h.2
    simp at this
    omega
  | v :: vs, k, t, i => by
    rw [setAll, setAll_get vs (k + 1) (t.set k v) i]
    by_cases h1 : k + 1 ≤ i ∧ i < k + 1 + vs.length
    · rw [if_pos h1, if_pos (by simp; omega)]
      have : i - k = (i - (k + 1)) + 1 := by omega
      rw [this, List.getElem?_cons_succ]
    · rw [if_neg h1]
      by_cases h2 : i = k
      · subst h2
        rw [Tm.get_set_same, if_pos (by simp)]
        simp
      · rw [Tm.get_set_ne _ _ _ _ h2, if_neg (by simp; omega)]
theorem enter_ok {args : List V} {xs : List Value} {out : List Rows} {n : Nat} (hold : ∀ b o, I b o → b < w.heap.size) (hg : GlobOk X I w) (hout : OutOk X.P I w φ out) (ha : All2 (Rel X.P I w φ) args xs) (hn : args.length ≤ n) :
    StOk X I w φ n out.length (enter args out) { tmps := (⟨xs⟩ : Array Value) ++ Array.replicate (n - (⟨xs⟩ : Array Value).size) Go.undef, defers := [] } := by
  have hl : args.length = xs.length := ha.1
  refine ⟨(enter_mem hout).1, fun i => ?_, by simp; omega, trivial, hg, hold, rfl⟩
  simp only [enter]
  rw [setAll_get]
  simp only [Nat.zero_le, true_and, Nat.zero_add, Nat.sub_zero]
  split
  · rename_i hi
    obtain ⟨y, hy, hr⟩ := ha.get (i := i) (v := args[i]) (by simp [hi])
    have hxi : i < xs.length := by omega
    rw [List.getElem?_eq_getElem hi, Array.getD_eq_getD_getElem?, Array.getElem?_append_left (by simpa using hxi)]
    simp only [Option.getD_some]
    have : (⟨xs⟩ : Array Value)[i]? = some y := by simpa using hy
    rw [this]; exact hr
  · rename_i hi
    rw [Tm.get_nil, Array.getD_eq_getD_getElem?, Array.getElem?_append_right (by simp; omega)]
    have : ((Array.replicate (n - (⟨xs⟩ : Array Value).size) Go.undef)[i - (⟨xs⟩ : Array Value).size]?).getD Go.undef = Go.undef := by
      rw [Array.getElem?_replicate]
      split <;> rfl
    rw [this]
    exact .p .undef
def PanOk (P : Program) (I : Imm) (w : World) (φ : Phi) : Option V → FrameMode → Prop
  | none, u => u = .returning
  | some v, u => ∃ x, u = .panicking [{ v := x, recovered := false }] ∧ Rel P I w φ v x
def DSound (X : Env) (call : CallD) : Prop := ∀ f cap out p out', call f cap out p = some out' → ∀ (I : Imm) (w : World) (φ : Phi) (ys : List Value) (u : FrameMode), (∀ b o, I b o → b < w.heap.size) → GlobOk X I w → OutOk X.P I w φ out →
  All2 (Rel X.P I w φ) cap ys → PanOk X.P I w φ p u → callOk X.P f = true ∧ CallsD X.P f ⟨ys⟩ u w (fun e u' w' => (∃ y, e = .returned y) ∧ settle u' = .returning ∧ ∃ I' φ', Ext I w φ I' w' φ' ∧ OutOk X.P I' w' φ' out' ∧ out'.length = out.length)
theorem leaves_sound {call : CallD} (hd : DSound X call) {fn : Func} {tmps : Array Value} {R : Ending → World → Prop} {I0 : Imm} {w0 : World} {φ0 : Phi} {q : Option V} {m' : Mem} {L : Nat} :
    ∀ (ds : List (FuncId × List V)) (dd : List Deferred) (m : Mem) (p : Option V) (u : FrameMode) (I : Imm) (w : World) (φ : Phi), Ext I0 w0 φ0 I w φ → DfsOk X.P I w φ ds dd → MemOk X.P I w φ m → m.out.length = L → (∀ b o, I b o → b < w.heap.size) → GlobOk X I w →
      PanOk X.P I w φ p u → runDefers call ds m p = some (q, m') →
      (∀ u' I' w' φ', Ext I0 w0 φ0 I' w' φ' → MemOk X.P I' w' φ' m' → m'.out.length = L → PanOk X.P I' w' φ' q u' → Leaves X.P fn tmps R [] u' w') → Leaves X.P fn tmps R dd u w
  | [], dd, m, p, u, I, w, φ, he, hdf, hm, hl, _, _, hp, e, fin => by
    simp only [runDefers, Option.some.injEq, Prod.mk.injEq] at e
    obtain ⟨rfl, rfl⟩ := e
    cases dd with
    | nil => exact fin u I w φ he hm hl hp
    | cons => exact hdf.elim
  | (f, cap) :: ds, dd, m, p, u, I, w, φ, he, hdf, hm, hl, hold, hg, hp, e, fin => by
    cases dd with
    | nil => exact hdf.elim
    | cons d dd =>
      obtain ⟨⟨ys, rfl, hcap⟩, ht⟩ := hdf
      simp only [runDefers] at e
      split at e
      · rename_i own out hcl
        obtain ⟨hok, hcalls⟩ := hd f cap _ p _ hcl I w φ ys u hold hg hm hcap hp
        have hu : u ≠ .run := by
          cases p with
          | none => rw [show u = .returning from hp]; simp
          | some v => obtain ⟨x, rfl, _⟩ := hp; simp
        refine leaves_cons (f := f) (args := ⟨ys⟩) hu ?_ (CallsD.mono hcalls fun ed u' w' hpost => ?_)
        · simp only [invoke]
          have : (#[] : Array Value) ++ ⟨ys⟩ = ⟨ys⟩ := by simp
          rw [this]
          exact run_enter hok _
        · obtain ⟨⟨y, rfl⟩, hset, I', φ', k1, k2, k3⟩ := hpost
          simp only
          rw [hset]
          exact leaves_sound hd ds dd ⟨own, out⟩ none .returning I' w' φ' (he.trans k1) (ht.ext k1) k2 ((by simpa using k3 : out.length = m.out.length).trans hl) (k1.old hold) (hg.ext k1) rfl e fin
      · simp at e
theorem ext_below {I' : Imm} {w' : World} {φ' : Phi} {n : Nat} (h : Ext I w φ I' w' φ') (hb : ∀ r, φ r ≠ none → r.d < n) : Ext I w φ I' w' (φ'.below n) := by
  refine ⟨h.imm, h.cell, fun r l hl => ?_, h.hsize, h.os, h.tape, h.output, h.block, fun r l hl => h.fresh r l (Phi.below_le _ _ hl), h.immNew, h.plain, h.old⟩
  unfold Phi.below
  rw [if_pos (hb r (by rw [hl]; simp))]
  exact h.phi r l hl
theorem fn_sound {k : Nat} (hc : CodeSound X k) (hd : DSound X (evD X k)) : CallOk X (evFn X (k + 1)) := by
  intro f args out r e I w φ xs hold hg hout ha
  simp only [evFn] at e
  split at e
  · simp at e
  · rename_i fn hf
    split at e
    · simp at e
    · rename_i c hb
      split at e
      · rename_i hok
        refine calls_of_wp_defers hf hb ?_
        have hent := enter_ok (n := fn.ntmps) hold hg hout ha hok.2
        have hbel := (enter_mem hout).2
        have fin : ∀ (st : St) (p : Option V) (u : FrameMode) (I1 : Imm) (w1 : World) (φ1 : Phi) (a1 : Act), Ext I w φ I1 w1 φ1 → StOk X I1 w1 φ1 fn.ntmps out.length st a1 → PanOk X.P I1 w1 φ1 p u → finish X (evD X k) fn st p = some r →
            Leaves X.P fn a1.tmps (FnPost X.P I w φ out r) a1.defers u w1 := by
          intro st p u I1 w1 φ1 a1 he1 h1 hp hfin
          simp only [finish] at hfin
          split at hfin
          · rename_i v m' hrun
            split at hfin
            · simp at hfin
            rename_i hrefs
            simp only [Option.some.injEq] at hfin; subst hfin
            refine leaves_sound (L := out.length) hd st.dfs a1.defers st.m p u I1 w1 φ1 (Ext.refl _ _ _) h1.dfs h1.mem h1.len h1.old h1.glob hp hrun (fun u' I' w' φ' he' hm' hl' hp' => ?_)
            obtain ⟨x, rfl, hx⟩ := hp'
            have hle := leave_mem hm'
            rw [hl'] at hle
            exact ⟨I', φ'.below out.length, x, rfl, ext_below (he1.trans he') hbel, hle, hl', .p (pureR hx (by simpa using hrefs))⟩
          · rename_i m' hrun
            split at hfin
            · rename_i vs hvs
              split at hfin
              · rename_i v hv
                simp only [Option.some.injEq] at hfin; subst hfin
                refine leaves_sound (L := out.length) hd st.dfs a1.defers st.m p u I1 w1 φ1 (Ext.refl _ _ _) h1.dfs h1.mem h1.len h1.old h1.glob hp hrun (fun u' I' w' φ' he' hm' hl' hp' => ?_)
                have hu : u' = .returning := hp'
                subst hu
                obtain ⟨x, hres, hr⟩ := results_sound (h1.ext he' hm' hl') (fn := fn) hvs
                obtain ⟨I2, U', e2, m2, l2, r2⟩ := mv_sound hm' (he1.trans he') (fun r hr => by rw [hl']; exact hbel r hr) hr hv
                have hle := leave_mem m2
                rw [l2, hl'] at hle
                rw [hl'] at r2
                exact ⟨x, hres, I2, φ'.below out.length, U', ext_below ((he1.trans he').trans e2) hbel, hle, by rw [l2, hl'], r2⟩
              · simp at hfin
            · simp at hfin
          · simp at hfin
        split at e
        · rename_i st hx
          refine wp_mono (hc c _ _ fn.ntmps out.length I w φ _ hok.1 hent hx) (fun ex a' w' hq => ?_)
          obtain ⟨I', φ', k1, k2, k3⟩ := hq
          cases ex <;> simp only at k3 <;> try exact k3.elim
          exact fin st none .returning I' w' φ' a' k1 k2 rfl e
        · rename_i st hx
          refine wp_mono (hc c _ _ fn.ntmps out.length I w φ _ hok.1 hent hx) (fun ex a' w' hq => ?_)
          obtain ⟨I', φ', k1, k2, k3⟩ := hq
          cases ex <;> simp only at k3 <;> try exact k3.elim
          exact fin st none .returning I' w' φ' a' k1 k2 rfl e
        · rename_i v st hx
          refine wp_mono (hc c _ _ fn.ntmps out.length I w φ _ hok.1 hent hx) (fun ex a' w' hq => ?_)
          obtain ⟨I', φ', k1, k2, k3⟩ := hq
          cases ex <;> simp only at k3 <;> try exact k3.elim
          obtain ⟨x, rfl, hx'⟩ := k3
          exact fin st (some v) _ I' w' φ' a' k1 k2 ⟨x, rfl, hx'⟩ e
        · simp at e
      · simp at e
end
end Go.Ev
namespace Go.Ev
section
variable {X : Env} {I : Imm} {w : World} {φ : Phi} {m : Mem}
theorem evOpsS_sound {call : CallF} (hcall : CallOk X call) (hext : ExtOk X) {n L : Nat} (ops : Array Oper) {I0 : Imm} {w0 : World} {φ0 : Phi} {st' : St} {Q : Exit → Act → List Frame → World → Prop} {cs : List Frame}
    (fin : ∀ a' w' I' φ', Ext I0 w0 φ0 I' w' φ' → StOk X I' w' φ' n L st' a' → Q .normal a' cs w') :
    ∀ (l : List Oper) (k : Nat) (st : St) (I : Imm) (w : World) (φ : Phi) (a : Act), (∀ j, l[j]? = ops[k + j]?) → (∀ o ∈ l, ∀ d, o.dst = some d → d < n) → Ext I0 w0 φ0 I w φ → StOk X I w φ n L st a →
      evOps X call ops l st = some (.normal, st') → wpOpsS X.P ops Q (List.range' k l.length) a cs w
  | [], k, st, I, w, φ, a, _, _, he, h, e => by
    simp only [evOps, Option.some.injEq, Prod.mk.injEq, true_and] at e; subst e
    exact fin a w I φ he h
  | o :: rest, k, st, I, w, φ, a, hk, hd, he, h, e => by
    have hd0 := hd o (by simp)
    have hk0 : ops[k]? = some o := by simpa using (hk 0).symm
    have ih := fun st1 I' w' φ' a' => evOpsS_sound hcall hext (L := L) ops (I0 := I0) (w0 := w0) (φ0 := φ0) (st' := st') fin rest (k + 1) st1 I' w' φ' a' (fun j => by have := hk (j + 1); simpa [Nat.add_assoc, Nat.add_comm 1 j] using this) (fun o ho => hd o (by simp [ho]))
    rw [evOps] at e
    rw [List.length_cons, List.range'_succ, wpOpsS]
    simp only [hk0]
    rw [← wanted_ok h]
    split at e
    · rename_i hw
      rw [if_pos hw]
      cases ho : evOp X st.m st.t o with
      | none => simp [ho] at e
      | some rr =>
        rw [ho] at e
        have hu : o.upon X.P a (fun a' w' => wpOpsS X.P ops Q (List.range' (k + 1) rest.length) a' cs w') (fun e a' w' => Q e a' cs w') ((execOp a.eval o).run X.P w) := by
          refine upon_sound hcall hext h hd0 ho ?_ ?_ ?_ ?_ ?_
          · rintro v m rfl a' w' I' φ' he' h'
            exact ih _ _ _ _ _ (he.trans he') h' e
          · rintro m rfl a' w' I' φ' he' h'
            exact ih _ _ _ _ _ (he.trans he') h' e
          · rintro f args m rfl
            simp only at e
            cases hdo : doCall X call f args m (o.dst.getD 0) with
            | none => simp [hdo] at e
            | some res =>
              refine ⟨res, rfl, ?_, ?_⟩
              · rintro v m' rfl a' w' I' φ' he' h'
                simp only [hdo] at e
                exact ih _ _ _ _ _ (he.trans he') h' e
              · rintro v m' rfl w' I' φ' x he' h' hr
                simp [hdo] at e
          · rintro f cap rfl a' h'
            exact ih _ _ _ _ _ he h' e
          · rintro v rfl x hr
            simp at e
        generalize hrun : (execOp a.eval o).run X.P w = rs at hu
        split
        · exact hu.elim
        · exact hu
    · rename_i hw
      rw [if_neg hw]
      exact ih _ _ _ _ _ he (skip_ok h hd0) e
theorem run_recover {a : Act} {o : Oper} (h : isRecover o = true) : o.guard = none ∧ (execOp a.eval o).run X.P w = .ok .recover w := by
  unfold isRecover at h
  split at h
  · rename_i hop hg
    refine ⟨hg, ?_⟩
    simp only [execOp, hop, resolve, Sem.run_bind, Sem.run_pure, Result.andThen_ok, invoke, Go.builtin]
  · simp at h
theorem run_noResults {P : Program} {fn : Func} (h : fn.results.size = 0) (tmps : Array Value) : (results fn tmps).run P w = .ok (.tuple #[]) w := by
  have hr : fn.results = #[] := Array.eq_empty_of_size_eq_zero h
  simp [results, hr]
theorem d_sound {k : Nat} (hc : CodeSound X k) (hcall : CallOk X (evFn X k)) (hext : ExtOk X) : DSound X (evD X (k + 1)) := by
  intro f cap out p out' e I w φ ys u hold hg hout ha hp
  simp only [evD] at e
  split at e
  · simp at e
  · rename_i fn hf
    split at e
    · rename_i id ops c hb
      split at e
      · rename_i o os hops
        split at e
        · rename_i hok
          obtain ⟨hcode, hlen, hrec, hcok⟩ := hok
          refine ⟨hcok, ?_⟩
          split at e
          · rename_i st hx
            have hcode2 : codeOk fn.ntmps (.region 0 ops false) = true ∧ codeOk fn.ntmps c = true := by simpa only [codeOk, Bool.and_eq_true] using hcode
            have hd := regionOk hcode2.1
            rw [hops] at hd
            have hent := enter_ok (n := fn.ntmps) hold hg hout ha hlen
            have hbel := (enter_mem hout).2
            refine callsD_of_wpS hf hb (fun c₀ cs hmode => ?_)
            refine wpS_seq (wpS_region ?_)
            have hrange : List.range ops.size = 0 :: List.range' 1 os.length := by
              rw [← Array.length_toList, hops, List.range_eq_range', List.length_cons, List.range'_succ]
            have ho0 : ops[0]? = some o := by
              have : ops.toList[0]? = some o := by rw [hops]; rfl
              simpa using this
            rw [hrange, wpOpsS]
            simp only [ho0]
            obtain ⟨hgd, hrun⟩ := run_recover (X := X) (w := w) (a := { tmps := (⟨ys⟩ : Array Value) ++ Array.replicate (fn.ntmps - (⟨ys⟩ : Array Value).size) Go.undef, defers := [] }) hrec
            rw [if_pos (by unfold Region.wanted; rw [hgd])]
            simp only [hrun]
            have tail : ∀ (x : Value) (u' : FrameMode), Rel X.P I w φ (p.getD .nilI) x → settle u' = .returning →
                wpOpsS X.P ops (Exit.thenS (c.wpS X.P (bodyPostS X.P fn c₀ cs fun e u' w' => (∃ y, e = .returned y) ∧ settle u' = .returning ∧ ∃ I' φ', Ext I w φ I' w' φ' ∧ OutOk X.P I' w' φ' out' ∧ out'.length = out.length))
                    (bodyPostS X.P fn c₀ cs fun e u' w' => (∃ y, e = .returned y) ∧ settle u' = .returning ∧ ∃ I' φ', Ext I w φ I' w' φ' ∧ OutOk X.P I' w' φ' out' ∧ out'.length = out.length))
                  (List.range' 1 os.length) (({ tmps := (⟨ys⟩ : Array Value) ++ Array.replicate (fn.ntmps - (⟨ys⟩ : Array Value).size) Go.undef, defers := [] } : Act).put o.dst x) ({ c₀ with mode := u' } :: cs) w := by
              intro x u' hx' hset
              have hput := hent.put (Ext.refl _ _ _) hent.mem hent.len (hd o (by simp)) hx'
              refine evOpsS_sound (L := out.length) (n := fn.ntmps) hcall hext ops (I0 := I) (w0 := w) (φ0 := φ) (st' := st) ?_ os 1 _ I w φ _ ?_ (fun o' ho' => hd o' (by simp [ho'])) (Ext.refl _ _ _) hput hx
              · intro a' w' I' φ' he' h'
                have fin : ∀ st', (st'.dfs.length = 0 ∧ fn.results.size = 0) → out' = st'.m.out → ∀ I2 φ2 a2 w2, Ext I w φ I2 w2 φ2 → StOk X I2 w2 φ2 fn.ntmps out.length st' a2 →
                    a2.defers = [] ∧ ∃ u2, ({ c₀ with mode := u' } :: cs : List Frame) = { c₀ with mode := u2 } :: cs ∧ ∃ v, (results fn a2.tmps).run X.P w2 = .ok v w2 ∧
                      ((∃ y, Ending.returned v = .returned y) ∧ settle u2 = .returning ∧ ∃ I' φ', Ext I w φ I' w2 φ' ∧ OutOk X.P I' w2 φ' out' ∧ out'.length = out.length) := by
                  intro st' hz ho I2 φ2 a2 w2 he2 h2
                  subst ho
                  refine ⟨?_, u', rfl, _, run_noResults hz.2 _, ⟨_, rfl⟩, hset, I2, φ2.below out.length, ext_below he2 hbel, ?_, h2.len⟩
                  · have := h2.dfs
                    have hnil : st'.dfs = [] := List.length_eq_zero_iff.1 hz.1
                    rw [hnil] at this
                    cases hdd : a2.defers with
                    | nil => rfl
                    | cons => rw [hdd] at this; exact this.elim
                  · have := leave_mem h2.mem
                    rw [h2.len] at this
                    exact this
                show c.wpS X.P _ a' _ w'
                refine wpS_of_wp ?_
                split at e
                · rename_i st' hy
                  split at e
                  · rename_i hz
                    simp only [Option.some.injEq] at e
                    refine wp_mono (hc c st _ fn.ntmps out.length I' w' φ' a' hcode2.2 h' hy) (fun ex a2 w2 hq => ?_)
                    obtain ⟨I2, φ2, k1, k2, k3⟩ := hq
                    cases ex <;> simp only at k3 <;> try exact k3.elim
                    exact fin st' hz e.symm I2 φ2 a2 w2 (he'.trans k1) k2
                  · simp at e
                · rename_i st' hy
                  split at e
                  · rename_i hz
                    simp only [Option.some.injEq] at e
                    refine wp_mono (hc c st _ fn.ntmps out.length I' w' φ' a' hcode2.2 h' hy) (fun ex a2 w2 hq => ?_)
                    obtain ⟨I2, φ2, k1, k2, k3⟩ := hq
                    cases ex <;> simp only at k3 <;> try exact k3.elim
                    exact fin st' hz e.symm I2 φ2 a2 w2 (he'.trans k1) k2
                  · simp at e
                · simp at e
              · intro j
                have : ops.toList[1 + j]? = os[j]? := by rw [hops, Nat.add_comm, List.getElem?_cons_succ]
                rw [← this]; simp
            cases p with
            | none =>
              have hu : u = .returning := hp
              have hrd : recoverD (c₀ :: cs) = none := by simp [recoverD, hmode, hu]
              rw [hrd]
              have := tail .nilIface .returning (.p .nilI) rfl
              have hc0 : ({ c₀ with mode := .returning } : Frame) = c₀ := by cases c₀; simp_all
              rw [hc0] at this
              exact this
            | some v =>
              obtain ⟨x, hu, hx'⟩ := hp
              have hrd : recoverD (c₀ :: cs) = some (x, { c₀ with mode := .panicking [{ v := x, recovered := true }] } :: cs) := by simp [recoverD, hmode, hu]
              rw [hrd]
              exact tail x _ hx' rfl
          · simp at e
        · simp at e
      · simp at e
    · simp at e
theorem all_sound (hext : ExtOk X) (hdraw : ∀ k, CallOk X (evFn X k) → DrawSound X (evFn X k)) : ∀ k, CallOk X (evFn X k) ∧ DSound X (evD X k) ∧ ∀ j, j ≤ k → CodeSound X j
  | 0 => by
    refine ⟨fun f args out r e => by simp [evFn] at e, fun f cap out p out' e => by simp [evD] at e, fun j hj => ?_⟩
    obtain rfl : j = 0 := by omega
    exact code_zero
  | k + 1 => by
    obtain ⟨h1, h2, h3⟩ := all_sound hext hdraw k
    refine ⟨fn_sound (h3 k (Nat.le_refl _)) h2, d_sound (h3 k (Nat.le_refl _)) h1 hext, fun j hj => ?_⟩
    rcases Nat.lt_or_ge j (k + 1) with h | h
    · exact h3 j (by omega)
    · obtain rfl : j = k + 1 := by omega
      exact code_succ (h3 k (Nat.le_refl _)) (fun j hj => h3 j hj) h1 hext (hdraw k h1)
end
end Go.Ev
namespace Go.Ev
theorem Trie.setF_fuel {α : Type} (a : α) : ∀ (f g n : Nat) (t : Trie α), n ≤ f → n ≤ g → Trie.setF a f t n = Trie.setF a g t n := by
  intro f
  induction f with
  | zero =>
    intro g n t h _
    obtain rfl : n = 0 := by omega
    cases g <;> cases t <;> simp [Trie.setF]
  | succ f ih =>
    intro g n t h h'
    cases g with
    | zero =>
      obtain rfl : n = 0 := by omega
      cases t <;> simp [Trie.setF]
    | succ g =>
      cases t with
      | nil =>
        simp only [Trie.setF]
        split
        · rfl
        · split
          · rw [ih g (n / 2) _ (by omega) (by omega)]
          · rw [ih g (n / 2 - 1) _ (by omega) (by omega)]
      | node v l r =>
        simp only [Trie.setF]
        split
        · rfl
        · split
          · rw [ih g (n / 2) _ (by omega) (by omega)]
          · rw [ih g (n / 2 - 1) _ (by omega) (by omega)]
theorem Trie.set_nil {α : Type} (n : Nat) (a : α) : (Trie.nil : Trie α).set n a = (Trie.node none .nil .nil).set n a := by
  unfold Trie.set
  cases n with
  | zero => rfl
  | succ n => simp [Trie.setF]
theorem Trie.set_node {α : Type} (v : Option α) (l r : Trie α) (n : Nat) (a : α) :
    (Trie.node v l r).set n a = if n = 0 then .node (some a) l r else if n % 2 = 1 then .node v (l.set (n / 2) a) r else .node v l (r.set (n / 2 - 1) a) := by
  unfold Trie.set
  cases n with
  | zero => rfl
  | succ n =>
    simp only [Trie.setF, Nat.succ_ne_zero, if_false]
    split
    · rw [Trie.setF_fuel a n ((n + 1) / 2) ((n + 1) / 2) l (by omega) (by omega)]
    · rw [Trie.setF_fuel a n ((n + 1) / 2 - 1) ((n + 1) / 2 - 1) r (by omega) (by omega)]
theorem Trie.set_comm {α : Type} (a b : α) : ∀ (n k : Nat) (t : Trie α), n ≠ k → (t.set n a).set k b = (t.set k b).set n a := by
  intro n
  induction n using Nat.strongRecOn with
  | _ n ih =>
    intro k t hne
    have key : ∀ (v : Option α) (l r : Trie α), ((Trie.node v l r).set n a).set k b = ((Trie.node v l r).set k b).set n a := by
      intro v l r
      rw [Trie.set_node v l r n a, Trie.set_node v l r k b]
      by_cases hn0 : n = 0
      · subst hn0
        have hk0 : ¬ k = 0 := fun e => hne e.symm
        simp only [if_true, if_neg hk0, Trie.set_node]
        split <;> simp [Trie.set_node]
      · by_cases hk0 : k = 0
        · subst hk0
          simp only [if_true, if_neg hn0, Trie.set_node]
          split <;> simp [Trie.set_node]
        · simp only [if_neg hn0, if_neg hk0]
          by_cases hn : n % 2 = 1
          · by_cases hk : k % 2 = 1
            · simp only [if_pos hn, if_pos hk, Trie.set_node, if_neg hn0, if_neg hk0]
              rw [ih (n / 2) (by omega) (k / 2) l (by omega)]
            · simp only [if_pos hn, if_neg hk, Trie.set_node, if_neg hn0, if_neg hk0]
          · by_cases hk : k % 2 = 1
            · simp only [if_neg hn, if_pos hk, Trie.set_node, if_neg hn0, if_neg hk0]
            · simp only [if_neg hn, if_neg hk, Trie.set_node, if_neg hn0, if_neg hk0]
              rw [ih (n / 2 - 1) (by omega) (k / 2 - 1) r (by omega)]
    cases t with
    | nil => rw [Trie.set_nil, Trie.set_nil, key]
    | node v l r => exact key v l r
theorem Rows.upd_comm (f : Rows) {s i s' i' : Nat} (r r' : Row) (h : s ≠ s') : (f.upd s i r).upd s' i' r' = (f.upd s' i' r').upd s i r := by
  unfold Rows.upd
  rw [Trie.get_set_ne _ _ _ _ (Ne.symm h), Trie.get_set_ne _ _ _ _ h, Trie.set_comm _ _ _ _ _ h]
theorem outSet_comm : ∀ (l : List Rows) {d s i d' s' i' : Nat} (r r' : Row), ¬ (d = d' ∧ s = s') → outSet (outSet l d s i r) d' s' i' r' = outSet (outSet l d' s' i' r') d s i r
  | [], _, _, _, _, _, _, _, _, _ => rfl
  | x :: xs, d, s, i, d', s', i', r, r', h => by
    simp only [outSet]
    by_cases h1 : d = xs.length
    · by_cases h2 : d' = xs.length
      · have hs : s ≠ s' := fun e => h ⟨h1.trans h2.symm, e⟩
        simp only [if_pos h1, if_pos h2, outSet]
        rw [Rows.upd_comm _ _ _ hs]
      · simp only [if_pos h1, if_neg h2, outSet, outSet_length]
    · by_cases h2 : d' = xs.length
      · simp only [if_neg h1, if_pos h2, outSet, outSet_length]
      · simp only [if_neg h1, if_neg h2, outSet, outSet_length]
        rw [outSet_comm xs r r' h]
theorem Mem.set_comm (m : Mem) {d s i d' s' i' : Nat} (r r' : Row) (h : ¬ (d = d' ∧ s = s')) : (m.set d s i r).set d' s' i' r' = (m.set d' s' i' r').set d s i r := by
  unfold Mem.set
  by_cases h1 : d = m.out.length
  · by_cases h2 : d' = m.out.length
    · have hs : s ≠ s' := fun e => h ⟨h1.trans h2.symm, e⟩
      simp only [if_pos h1, if_pos h2]
      rw [Rows.upd_comm _ _ _ hs]
    · simp only [if_pos h1, if_neg h2, outSet_length]
  · by_cases h2 : d' = m.out.length
    · simp only [if_neg h1, if_pos h2, outSet_length]
    · simp only [if_neg h1, if_neg h2, outSet_length]
      rw [outSet_comm _ _ _ h]
structure Wr where
  d : Nat
  s : Nat
  i : Nat
  row : Row
def app (m : Mem) : List Wr → Mem
  | [] => m
  | x :: xs => app (m.set x.d x.s x.i x.row) xs
theorem app_append (m : Mem) : ∀ (l l' : List Wr), app m (l ++ l') = app (app m l) l'
  | [], _ => rfl
  | x :: l, l' => by simp only [List.cons_append, app]; exact app_append _ l l'
theorem app_set (x : Wr) : ∀ (l : List Wr) (m : Mem), (∀ y ∈ l, ¬ (y.d = x.d ∧ y.s = x.s)) → app (m.set x.d x.s x.i x.row) l = (app m l).set x.d x.s x.i x.row
  | [], m, _ => rfl
  | y :: l, m, h => by
    simp only [app]
    rw [Mem.set_comm _ _ _ (fun e => h y (by simp) ⟨e.1.symm, e.2.symm⟩), app_set x l _ (fun z hz => h z (by simp [hz]))]
theorem app_comm : ∀ (l l' : List Wr) (m : Mem), (∀ x ∈ l, ∀ y ∈ l', ¬ (y.d = x.d ∧ y.s = x.s)) → app (app m l) l' = app (app m l') l
  | [], l', m, _ => rfl
  | x :: l, l', m, h => by
    simp only [app]
    rw [app_comm l l' _ (fun z hz => h z (by simp [hz])), app_set x l' m (h x (by simp))]
@[simp] theorem app_len : ∀ (l : List Wr) (m : Mem), (app m l).out.length = m.out.length
  | [], _ => rfl
  | x :: l, m => by rw [app, app_len l]; simp
def look (m : Mem) (d s i : Nat) : Option Row := (m.rows d).map fun f => f.get s i
theorem look_own (m : Mem) (s i : Nat) : look m m.out.length s i = some (m.own.get s i) := by simp [look, Mem.rows_own]
theorem row_look (m : Mem) (r : Ref) : m.row r = (look m r.d r.s r.i).bind fun row => if row.g = r.g then some row else none := by
  unfold Mem.row look
  cases m.rows r.d <;> rfl
theorem look_set (m : Mem) (d s i : Nat) (row : Row) (d' s' i' : Nat) : look (m.set d s i row) d' s' i' = if d' = d ∧ s' = s ∧ i' = i then (look m d s i).map (fun _ => row) else look m d' s' i' := by
  unfold look
  rw [Mem.rows_set]
  by_cases hd : d' = d
  · subst hd
    rw [if_pos rfl]
    cases m.rows d' with
    | none => simp
    | some f =>
      simp only [Option.map_some, true_and]
      by_cases h : s' = s ∧ i' = i
      · rw [if_pos h, h.1, h.2, Rows.get_upd_same]
      · rw [if_neg h, Rows.get_upd_ne _ _ _ _ _ _ h]
  · rw [if_neg hd, if_neg (fun h => hd h.1)]
def unfz (r : Row) : Row := { r with fz := false }
def SlotEq (m m2 : Mem) (x : Nat × Nat) : Prop := ∀ i, look m x.1 x.2 i = look m2 x.1 x.2 i
def ReadEq (m m2 : Mem) (x : Nat × Nat) : Prop := ∀ i, (look m x.1 x.2 i).map unfz = (look m2 x.1 x.2 i).map unfz
theorem SlotEq.read {m m2 : Mem} {x : Nat × Nat} (h : SlotEq m m2 x) : ReadEq m m2 x := fun i => by rw [h i]
structure Agree (W Z R : List (Nat × Nat)) (m m2 : Mem) : Prop where
  len : m.out.length = m2.out.length
  w : ∀ x ∈ W, SlotEq m m2 x
  z : ∀ x ∈ Z, SlotEq m m2 x
  r : ∀ x ∈ R, ReadEq m m2 x
def Two (W Z : List (Nat × Nat)) (m m2 m' m2' : Mem) : Prop :=
  ∃ L : List Wr, (∀ x ∈ L, (x.d, x.s) ∈ W ∨ (x.d, x.s) ∈ Z) ∧ m' = app m L ∧ m2' = app m2 L ∧ ∀ x ∈ Z, x ∉ W → ReadEq m m' x
theorem Two.refl {W Z : List (Nat × Nat)} (m m2 : Mem) : Two W Z m m2 m m2 := ⟨[], by simp, rfl, rfl, fun _ _ _ _ => rfl⟩
theorem Two.trans {W Z : List (Nat × Nat)} {m m2 m' m2' m'' m2'' : Mem} (h : Two W Z m m2 m' m2') (k : Two W Z m' m2' m'' m2'') : Two W Z m m2 m'' m2'' := by
  obtain ⟨L, a1, rfl, rfl, a4⟩ := h
  obtain ⟨L', b1, rfl, rfl, b4⟩ := k
  refine ⟨L ++ L', fun x hx => ?_, (app_append _ _ _).symm, (app_append _ _ _).symm, fun x hx hn i => (a4 x hx hn i).trans (b4 x hx hn i)⟩
  rcases List.mem_append.1 hx with h | h
  · exact a1 x h
  · exact b1 x h
theorem look_app_out : ∀ (L : List Wr) (m : Mem) (d s i : Nat), (∀ x ∈ L, ¬ (x.d = d ∧ x.s = s)) → look (app m L) d s i = look m d s i
  | [], _, _, _, _, _ => rfl
  | x :: L, m, d, s, i, h => by
    rw [app, look_app_out L _ d s i (fun y hy => h y (by simp [hy])), look_set, if_neg]
    exact fun e => h x (by simp) ⟨e.1.symm, e.2.1.symm⟩
theorem look_app_eq : ∀ (L : List Wr) (m m2 : Mem) (d s i : Nat), look m d s i = look m2 d s i → (∀ d s, (look m d s 0).isSome = (look m2 d s 0).isSome) → look (app m L) d s i = look (app m2 L) d s i
  | [], _, _, _, _, _, h, _ => h
  | x :: L, m, m2, d, s, i, h, hs => by
    have some_iff : ∀ (m : Mem) (d s i j : Nat), (look m d s i).isSome = (look m d s j).isSome := fun m d s i j => by unfold look; cases m.rows d <;> rfl
    have step : ∀ d s i, look m d s i = look m2 d s i ∨ True := fun _ _ _ => .inr trivial
    rw [app, app]
    refine look_app_eq L _ _ d s i ?_ (fun d' s' => ?_)
    · rw [look_set, look_set]
      split
      · have h1 := hs x.d x.s
        rw [some_iff m x.d x.s 0 x.i, some_iff m2 x.d x.s 0 x.i] at h1
        cases e1 : look m x.d x.s x.i <;> cases e2 : look m2 x.d x.s x.i <;> simp [e1, e2] at h1 ⊢
      · exact h
    · rw [look_set, look_set]
      split
      · have h1 := hs x.d x.s
        rw [some_iff m x.d x.s 0 x.i, some_iff m2 x.d x.s 0 x.i] at h1
        cases e1 : look m x.d x.s x.i <;> cases e2 : look m2 x.d x.s x.i <;> simp [e1, e2] at h1 ⊢
      · exact hs d' s'
theorem look_some (m m2 : Mem) (h : m.out.length = m2.out.length) (d s i : Nat) : (look m d s i).isSome = (look m2 d s i).isSome := by
  have key : ∀ m : Mem, (look m d s i).isSome = decide (d ≤ m.out.length) := by
    intro m
    unfold look
    cases hr : m.rows d with
    | none =>
      simp only [Option.map_none, Option.isSome_none]
      symm
      rw [decide_eq_false_iff_not]
      intro hle
      unfold Mem.rows at hr
      split at hr
      · simp at hr
      · obtain ⟨r, h'⟩ := outRows_some m.out d (by omega)
        rw [h'] at hr; simp at hr
    | some f =>
      simp only [Option.map_some, Option.isSome_some]
      symm
      rw [decide_eq_true_eq]
      unfold Mem.rows at hr
      split at hr
      · omega
      · have := outRows_lt m.out d (by rw [hr]; rfl)
        omega
  rw [key, key, h]
theorem Two.agree {W Z R : List (Nat × Nat)} {m m2 m' m2' : Mem} (h : Agree W Z R m m2) (k : Two W Z m m2 m' m2') (hr : ∀ x ∈ R, x ∉ W) : Agree W Z R m' m2' := by
  obtain ⟨L, a1, rfl, rfl, a4⟩ := k
  have hsome : ∀ d s, (look m d s 0).isSome = (look m2 d s 0).isSome := fun d s => look_some m m2 h.len d s 0
  have hslot : ∀ x, SlotEq m m2 x → SlotEq (app m L) (app m2 L) x := fun x hx i => look_app_eq L m m2 _ _ _ (hx i) hsome
  refine ⟨by simp [h.len], fun x hx => hslot x (h.w x hx), fun x hx => hslot x (h.z x hx), fun x hx => ?_⟩
  by_cases hz : x ∈ Z
  · exact (hslot x (h.z x hz)).read
  · intro i
    have hno : ∀ y ∈ L, ¬ (y.d = x.1 ∧ y.s = x.2) := by
      intro y hy e
      have e' : (y.d, y.s) = x := by rw [e.1, e.2]
      rcases a1 y hy with h1 | h1
      · exact hr x hx (e' ▸ h1)
      · exact hz (e' ▸ h1)
    rw [look_app_out L m _ _ _ hno, look_app_out L m2 _ _ _ hno]
    exact h.r x hx i
theorem Agree.row {W Z R : List (Nat × Nat)} {m m2 : Mem} (h : Agree W Z R m m2) {r : Ref} (hr : (r.d, r.s) ∈ W ∨ (r.d, r.s) ∈ Z) : m2.row r = m.row r := by
  rw [row_look, row_look]
  rcases hr with hr | hr
  · have := h.w _ hr r.i
    simp only at this
    rw [this]
  · have := h.z _ hr r.i
    simp only at this
    rw [this]
theorem Agree.rowR {W Z R : List (Nat × Nat)} {m m2 : Mem} (h : Agree W Z R m m2) {r : Ref} (hr : (r.d, r.s) ∈ R) : (m2.row r).map unfz = (m.row r).map unfz := by
  rw [row_look, row_look]
  have := h.r _ hr r.i
  simp only at this
  cases e1 : look m r.d r.s r.i with
  | none =>
    rw [e1] at this
    cases e2 : look m2 r.d r.s r.i with
    | none => rfl
    | some b => rw [e2] at this; simp at this
  | some a =>
    rw [e1] at this
    cases e2 : look m2 r.d r.s r.i with
    | none => rw [e2] at this; simp at this
    | some b =>
      rw [e2] at this
      simp only [Option.map_some, Option.some.injEq] at this
      have hg : b.g = a.g := by have := congrArg Row.g this; exact this.symm
      simp only [Option.bind_some, hg]
      split
      · simp [this]
      · rfl
end Go.Ev
namespace Go.Ev
theorem Two.set {W Z : List (Nat × Nat)} {m m2 : Mem} {d s i : Nat} {row : Row} (h : (d, s) ∈ W) : Two W Z m m2 (m.set d s i row) (m2.set d s i row) := by
  refine ⟨[⟨d, s, i, row⟩], by simp [h], rfl, rfl, fun x hx hn j => ?_⟩
  rw [look_set, if_neg]
  intro e
  have : x = (d, s) := Prod.ext e.1 e.2.1
  exact hn (this ▸ h)
theorem Two.fz {W Z : List (Nat × Nat)} {m m2 : Mem} {r : Ref} {row : Row} (h : (r.d, r.s) ∈ W ∨ (r.d, r.s) ∈ Z) (hr : m.row r = some row) : Two W Z m m2 (m.set r.d r.s r.i { row with fz := true }) (m2.set r.d r.s r.i { row with fz := true }) := by
  refine ⟨[⟨r.d, r.s, r.i, { row with fz := true }⟩], by simpa using h, rfl, rfl, fun x hx hn j => ?_⟩
  rw [look_set]
  split
  · rename_i e
    rw [row_look] at hr
    cases hl : look m r.d r.s r.i with
    | none => rw [hl] at hr; simp at hr
    | some a =>
      rw [hl] at hr
      simp only [Option.bind_some] at hr
      split at hr
      · simp only [Option.some.injEq] at hr
        subst hr
        rw [e.1, e.2.1, e.2.2, hl]
        rfl
      · simp at hr
  · rfl
section
variable {W Z R : List (Nat × Nat)} {m m2 : Mem}
theorem Agree.own {s i : Nat} (h : Agree W Z R m m2) (hw : (m.out.length, s) ∈ W) : m2.own.get s i = m.own.get s i := by
  have := h.w _ hw i
  simp only at this
  rw [look_own, h.len, look_own] at this
  exact (Option.some.inj this).symm
theorem new_two {s i : Nat} {ty : TypeId} {arr : Bool} {es : List V} (h : Agree W Z R m m2) (hw : (m.out.length, s) ∈ W) : Two W Z m m2 (m.new s i ty arr es) (m2.new s i ty arr es) ∧ m2.newRef s i = m.newRef s i := by
  rw [Mem.new_eq, Mem.new_eq, h.own hw, ← h.len]
  refine ⟨Two.set hw, ?_⟩
  simp only [Mem.newRef, h.own hw, h.len]
theorem frz1_two {v : V} (h : Agree W Z R m m2) (hz : ∀ x ∈ rows1 v, x ∈ Z) : Two W Z m m2 (frz1 m v) (frz1 m2 v) := by
  cases v with
  | rs r ty off len =>
    have hz' : (r.d, r.s) ∈ Z := hz _ (by simp [rows1])
    simp only [frz1, h.row (.inr hz')]
    split
    · rename_i row hr
      split
      · exact Two.fz (.inr hz') hr
      · exact Two.refl _ _
    · exact Two.refl _ _
  | _ => exact Two.refl _ _
theorem frzL_two : ∀ (vs : List V) (m m2 : Mem), Agree W Z [] m m2 → (∀ v ∈ vs, ∀ x ∈ rows1 v, x ∈ Z) → Two W Z m m2 (frzL m vs) (frzL m2 vs)
  | [], m, m2, _, _ => Two.refl _ _
  | v :: vs, m, m2, h, hz => by
    have t1 := frz1_two h (hz v (by simp))
    exact t1.trans (frzL_two vs _ _ (t1.agree h (by simp)) (fun u hu => hz u (by simp [hu])))
theorem frz_two {v : V} (h : Agree W Z [] m m2) (hz : ∀ x ∈ rowsOf v, x ∈ Z) : Two W Z m m2 (frz m v) (frz m2 v) := by
  by_cases hag : ∃ cs, v = .agg cs
  · obtain ⟨cs, rfl⟩ := hag
    simp only [frz]
    split
    · rename_i hany
      simp only [rowsOf, hany, if_true] at hz
      exact frzL_two cs m m2 h (fun u hu x hx => hz x (List.mem_flatMap.2 ⟨u, hu, hx⟩))
    · exact Two.refl _ _
  · have e1 : ∀ m, frz m v = frz1 m v := fun m => by cases v <;> first | rfl | exact absurd ⟨_, rfl⟩ hag
    have e2 : rowsOf v = rows1 v := by cases v <;> first | rfl | exact absurd ⟨_, rfl⟩ hag
    rw [e1, e1]
    exact frz1_two h (by rw [← e2]; exact hz)
theorem frzs_two : ∀ (vs : List V) (m m2 : Mem), Agree W Z [] m m2 → (∀ v ∈ vs, ∀ x ∈ rowsOf v, x ∈ Z) → Two W Z m m2 (frzs m vs) (frzs m2 vs)
  | [], m, m2, _, _ => Two.refl _ _
  | v :: vs, m, m2, h, hz => by
    have t1 := frz_two h (hz v (by simp))
    exact t1.trans (frzs_two vs _ _ (t1.agree h (by simp)) (fun u hu => hz u (by simp [hu])))
theorem snap1_two {v : V} (h : Agree W Z R m m2) (hz : ∀ x ∈ rows1 v, x ∈ Z) : snap1 m2 v = snap1 m v := by
  cases v with
  | rs r ty off len =>
    have hz' : (r.d, r.s) ∈ Z := hz _ (by simp [rows1])
    simp only [snap1, h.row (r := r) (.inr hz')]
  | _ => rfl
theorem snapL_two (h : Agree W Z R m m2) : ∀ (vs : List V), (∀ v ∈ vs, ∀ x ∈ rows1 v, x ∈ Z) → snapL m2 vs = snapL m vs
  | [], _ => rfl
  | v :: vs, hz => by simp only [snapL, snap1_two h (hz v (by simp)), snapL_two h vs (fun u hu => hz u (by simp [hu]))]
theorem snap_two {v : V} (h : Agree W Z R m m2) (hz : ∀ x ∈ rowsOf v, x ∈ Z) : snap m2 v = snap m v := by
  by_cases hag : ∃ cs, v = .agg cs
  · obtain ⟨cs, rfl⟩ := hag
    simp only [snap]
    split
    · rename_i hany
      simp only [rowsOf, hany, if_true] at hz
      rw [snapL_two h cs (fun u hu x hx => hz x (List.mem_flatMap.2 ⟨u, hu, hx⟩))]
    · rfl
  · have e1 : ∀ m, snap m v = snap1 m v := fun m => by cases v <;> first | rfl | exact absurd ⟨_, rfl⟩ hag
    have e2 : rowsOf v = rows1 v := by cases v <;> first | rfl | exact absurd ⟨_, rfl⟩ hag
    rw [e1, e1]
    exact snap1_two h (by rw [← e2]; exact hz)
theorem snaps_two (h : Agree W Z R m m2) : ∀ (vs : List V), (∀ v ∈ vs, ∀ x ∈ rowsOf v, x ∈ Z) → snaps m2 vs = snaps m vs
  | [], _ => rfl
  | v :: vs, hz => by simp only [snaps, snap_two h (hz v (by simp)), snaps_two h vs (fun u hu => hz u (by simp [hu]))]
theorem fillNil_two {s : Nat} : ∀ (cs : List V) (i : Nat) (m m2 : Mem), Agree W Z [] m m2 → (m.out.length, s) ∈ W → Two W Z m m2 (fillNil m s i cs).1 (fillNil m2 s i cs).1 ∧ (fillNil m2 s i cs).2 = (fillNil m s i cs).2
  | [], _, m, m2, _, _ => ⟨Two.refl _ _, rfl⟩
  | c :: cs, i, m, m2, h, hw => by
    by_cases hn : c = .nilS
    · subst hn
      obtain ⟨t1, e1⟩ := new_two (i := i) (ty := 0) (arr := true) (es := []) h hw
      obtain ⟨t2, e2⟩ := fillNil_two cs (i + 1) _ _ (t1.agree h (by simp)) (by simpa using hw)
      exact ⟨t1.trans t2, by simp only [fillNil, e1, e2]⟩
    · have e : ∀ m, fillNil m s i (c :: cs) = ((fillNil m s (i + 1) cs).1, c :: (fillNil m s (i + 1) cs).2) := fun m => by
        cases c <;> first | rfl | exact absurd rfl hn
      rw [e, e]
      obtain ⟨t2, e2⟩ := fillNil_two cs (i + 1) m m2 h hw
      exact ⟨t2, by simp only [e2]⟩
theorem filled_two {s : Nat} {v : V} (h : Agree W Z [] m m2) (hw : (m.out.length, s) ∈ W) : Two W Z m m2 (filled m s v).1 (filled m2 s v).1 ∧ (filled m2 s v).2 = (filled m s v).2 := by
  cases v with
  | agg cs =>
    simp only [filled]
    split
    · obtain ⟨t1, e1⟩ := fillNil_two (W := W) (Z := Z) cs 1 m m2 h hw
      exact ⟨t1, by rw [e1]⟩
    · exact ⟨Two.refl _ _, rfl⟩
  | nilS =>
    obtain ⟨t1, e1⟩ := new_two (i := 1) (ty := 0) (arr := true) (es := []) h hw
    exact ⟨t1, by simp only [filled, e1]⟩
  | _ => exact ⟨Two.refl _ _, rfl⟩
theorem filled_len {s : Nat} {v : V} : (filled m s v).1.out.length = m.out.length := by
  have key : ∀ (cs : List V) (i : Nat) (m : Mem), (fillNil m s i cs).1.out.length = m.out.length := by
    intro cs
    induction cs with
    | nil => intro i m; rfl
    | cons c cs ih =>
      intro i m
      by_cases hn : c = .nilS
      · subst hn; simp only [fillNil]; rw [ih]; rfl
      · have e : fillNil m s i (c :: cs) = ((fillNil m s (i + 1) cs).1, c :: (fillNil m s (i + 1) cs).2) := by
          cases c <;> first | rfl | exact absurd rfl hn
        rw [e]; exact ih _ _
  cases v with
  | agg cs => simp only [filled]; split; exact key _ _ _; rfl
  | _ => rfl
theorem inst1_two {dst i : Nat} {v : V} (h : Agree W Z [] m m2) (hw : (m.out.length, dst) ∈ W) : Two W Z m m2 (inst1 m dst i v).1 (inst1 m2 dst i v).1 ∧ (inst1 m2 dst i v).2 = (inst1 m dst i v).2 := by
  cases v with
  | own es ty =>
    obtain ⟨t1, e1⟩ := new_two (i := i) (ty := ty) (arr := true) (es := es) h hw
    exact ⟨t1, by simp only [inst1, e1]⟩
  | _ => exact ⟨Two.refl _ _, rfl⟩
theorem inst1_len {dst i : Nat} {v : V} : (inst1 m dst i v).1.out.length = m.out.length := by cases v <;> rfl
theorem instL_two {dst : Nat} : ∀ (vs : List V) (i : Nat) (m m2 : Mem), Agree W Z [] m m2 → (m.out.length, dst) ∈ W → Two W Z m m2 (instL m dst i vs).1 (instL m2 dst i vs).1 ∧ (instL m2 dst i vs).2 = (instL m dst i vs).2
  | [], _, m, m2, _, _ => ⟨Two.refl _ _, rfl⟩
  | v :: vs, i, m, m2, h, hw => by
    obtain ⟨t1, e1⟩ := inst1_two (i := i) (v := v) h hw
    obtain ⟨t2, e2⟩ := instL_two vs (i + 1) _ _ (t1.agree h (by simp)) (by rw [inst1_len]; exact hw)
    exact ⟨t1.trans t2, by simp only [instL, e1, e2]⟩
theorem instL_len {dst : Nat} : ∀ (vs : List V) (i : Nat) (m : Mem), (instL m dst i vs).1.out.length = m.out.length
  | [], _, _ => rfl
  | v :: vs, i, m => by simp only [instL]; rw [instL_len vs, inst1_len]
theorem inst2_two {dst i : Nat} {v : V} (h : Agree W Z [] m m2) (hw : (m.out.length, dst) ∈ W) : Two W Z m m2 (inst2 m dst i v).1 (inst2 m2 dst i v).1 ∧ (inst2 m2 dst i v).2 = (inst2 m dst i v).2 := by
  by_cases hag : ∃ cs, v = .agg cs
  · obtain ⟨cs, rfl⟩ := hag
    simp only [inst2]
    split
    · obtain ⟨t1, e1⟩ := instL_two (W := W) (Z := Z) cs i m m2 h hw
      exact ⟨t1, by rw [e1]⟩
    · exact ⟨Two.refl _ _, rfl⟩
  · have e : ∀ m, inst2 m dst i v = inst1 m dst i v := fun m => by cases v <;> first | rfl | exact absurd ⟨_, rfl⟩ hag
    rw [e, e]; exact inst1_two h hw
theorem inst2_len {dst i : Nat} {v : V} : (inst2 m dst i v).1.out.length = m.out.length := by
  by_cases hag : ∃ cs, v = .agg cs
  · obtain ⟨cs, rfl⟩ := hag
    simp only [inst2]
    split
    · exact instL_len _ _ _
    · rfl
  · have e : inst2 m dst i v = inst1 m dst i v := by cases v <;> first | rfl | exact absurd ⟨_, rfl⟩ hag
    rw [e]; exact inst1_len
theorem inst2s_two {dst : Nat} : ∀ (vs : List V) (i : Nat) (m m2 : Mem), Agree W Z [] m m2 → (m.out.length, dst) ∈ W → Two W Z m m2 (inst2s m dst i vs).1 (inst2s m2 dst i vs).1 ∧ (inst2s m2 dst i vs).2 = (inst2s m dst i vs).2
  | [], _, m, m2, _, _ => ⟨Two.refl _ _, rfl⟩
  | v :: vs, i, m, m2, h, hw => by
    obtain ⟨t1, e1⟩ := inst2_two (i := i) (v := v) h hw
    obtain ⟨t2, e2⟩ := inst2s_two vs (i + 1000) _ _ (t1.agree h (by simp)) (by rw [inst2_len]; exact hw)
    exact ⟨t1.trans t2, by simp only [inst2s, e1, e2]⟩
theorem install_two {dst : Nat} {v : V} (h : Agree W Z [] m m2) (hw : (m.out.length, dst) ∈ W) : Two W Z m m2 (install m dst v).1 (install m2 dst v).1 ∧ (install m2 dst v).2 = (install m dst v).2 := by
  by_cases ht : ∃ vs, v = .tup vs
  · obtain ⟨vs, rfl⟩ := ht
    obtain ⟨t1, e1⟩ := inst2s_two (W := W) (Z := Z) vs 1000 m m2 h hw
    exact ⟨t1, by simp only [install, e1]⟩
  · have e : ∀ m, install m dst v = inst2 m dst 1000 v := fun m => by cases v <;> first | rfl | exact absurd ⟨_, rfl⟩ ht
    rw [e, e]; exact inst2_two h hw
theorem Agree.noR (h : Agree W Z R m m2) : Agree W Z [] m m2 := ⟨h.len, h.w, h.z, by simp⟩
theorem Agree.mono {W' Z' R' : List (Nat × Nat)} (h : Agree W Z R m m2) (hw : ∀ x ∈ W', x ∈ W) (hz : ∀ x ∈ Z', x ∈ Z) (hr : ∀ x ∈ R', x ∈ R) : Agree W' Z' R' m m2 :=
  ⟨h.len, fun x hx => h.w x (hw x hx), fun x hx => h.z x (hz x hx), fun x hx => h.r x (hr x hx)⟩
theorem frz1_len {v : V} : (frz1 m v).out.length = m.out.length := by
  cases v with
  | rs r ty off len => simp only [frz1]; split <;> (try split) <;> simp
  | _ => rfl
theorem frzL_len : ∀ (vs : List V) (m : Mem), (frzL m vs).out.length = m.out.length
  | [], _ => rfl
  | v :: vs, m => by rw [frzL, frzL_len vs, frz1_len]
theorem frz_len {v : V} : (frz m v).out.length = m.out.length := by
  by_cases hag : ∃ cs, v = .agg cs
  · obtain ⟨cs, rfl⟩ := hag
    simp only [frz]; split
    · exact frzL_len _ _
    · rfl
  · have e1 : frz m v = frz1 m v := by cases v <;> first | rfl | exact absurd ⟨_, rfl⟩ hag
    rw [e1]; exact frz1_len
theorem frzs_len : ∀ (vs : List V) (m : Mem), (frzs m vs).out.length = m.out.length
  | [], _ => rfl
  | v :: vs, m => by rw [frzs, frzs_len vs, frz_len]
theorem snap_refs {v v' : V} (h : snap m v = some v') (hp : ptrs v = false) : v'.refs = false := by
  have one : ∀ (u u' : V), snap1 m u = some u' → ptr1 u = false → u'.loose = false := by
    intro u u' hs hp
    cases u with
    | rs r ty off len =>
      simp only [snap1] at hs
      split at hs
      · split at hs
        · simp only [Option.some.injEq] at hs; subst hs; rfl
        · simp at hs
      · simp at hs
    | nilS => simp only [snap1, Option.some.injEq] at hs; subst hs; rfl
    | ptr => simp [ptr1] at hp
    | fn f a b => simp only [snap1, Option.some.injEq] at hs; subst hs; exact hp
    | _ => simp only [snap1, Option.some.injEq] at hs; subst hs; rfl
  by_cases hag : ∃ cs, v = .agg cs
  · obtain ⟨cs, rfl⟩ := hag
    simp only [snap] at h
    split at h
    · rename_i hany
      simp only [ptrs, hany, if_true] at hp
      cases hl : snapL m cs with
      | none => simp [hl] at h
      | some cs' =>
        simp only [hl, Option.map_some, Option.some.injEq] at h; subst h
        have key : ∀ (cs cs' : List V), snapL m cs = some cs' → cs.any ptr1 = false → cs'.any V.loose = false := by
          intro cs
          induction cs with
          | nil => intro cs' h _; simp only [snapL, Option.some.injEq] at h; subst h; rfl
          | cons c cs ih =>
            intro cs' h hp
            simp only [snapL] at h
            split at h
            · rename_i x xs hx hxs
              simp only [Option.some.injEq] at h; subst h
              simp only [List.any_cons, Bool.or_eq_false_iff] at hp ⊢
              exact ⟨one _ _ hx hp.1, ih _ hxs hp.2⟩
            · simp at h
        exact key _ _ hl hp
    · rename_i hany
      simp only [Option.some.injEq] at h; subst h
      simpa [V.refs] using hany
  · have e1 : snap m v = snap1 m v := by cases v <;> first | rfl | exact absurd ⟨_, rfl⟩ hag
    have e2 : ptrs v = ptr1 v := by cases v <;> first | rfl | exact absurd ⟨_, rfl⟩ hag
    rw [e1] at h
    rw [e2] at hp
    have := one v v' h hp
    have hnt : ∀ vs, v' ≠ .tup vs := by
      intro vs hv
      subst hv
      cases v with
      | tup vs' => simp [ptr1] at hp
      | rs r ty off len =>
        simp only [snap1] at h
        split at h
        · split at h <;> simp at h
        · simp at h
      | agg => exact hag ⟨_, rfl⟩
      | _ => simp [snap1] at h
    have hna : ∀ cs, v' ≠ .agg cs := by
      intro cs hv
      subst hv
      cases v with
      | rs r ty off len =>
        simp only [snap1] at h
        split at h
        · split at h <;> simp at h
        · simp at h
      | agg => exact hag ⟨_, rfl⟩
      | _ => simp [snap1] at h
    cases v' <;> first | exact this | exact absurd rfl (hnt _) | exact absurd rfl (hna _)
theorem snaps_refs : ∀ (vs vs' : List V), snaps m vs = some vs' → vs.any ptrs = false → vs'.any V.refs = false
  | [], vs', h, _ => by simp only [snaps, Option.some.injEq] at h; subst h; rfl
  | v :: vs, vs', h, hp => by
    simp only [snaps] at h
    split at h
    · rename_i x xs hx hxs
      simp only [Option.some.injEq] at h; subst h
      simp only [List.any_cons, Bool.or_eq_false_iff] at hp ⊢
      exact ⟨snap_refs hx hp.1, snaps_refs vs xs hxs hp.2⟩
    · simp at h
end
end Go.Ev
namespace Go.Ev
section
variable {X : Env} {m m2 : Mem} {t : Tm} {o : Oper}
def OpR.setMem (m : Mem) : OpR → OpR
  | .val v _ => .val v m
  | .skip _ => .skip m
  | .call f args _ => .call f args m
  | .defer f a => .defer f a
  | .panic v => .panic v
def idleOp (X : Env) (t : Tm) (o : Oper) : Prop := ∀ m m2, evOp X m2 t o = (evOp X m t o).map (OpR.setMem m2)
theorem idle_two {call : CallF} {v : V} {m' : Mem} (h : idleOp X t o) (hc : ∀ m f args m', evOp X m t o ≠ some (.call f args m')) (e : memStep X call o t m = some (v, m')) {W Z : List (Nat × Nat)} :
    ∃ m2', memStep X call o t m2 = some (v, m2') ∧ Two W Z m m2 m' m2' := by
  have h1 := h m m2
  have h0 := h m m
  unfold memStep at e
  cases he : evOp X m t o with
  | none => simp [he] at e
  | some r =>
    rw [he] at h0 h1 e
    simp only [Option.map_some] at h0 h1
    cases r with
    | val u m1 =>
      simp only [Option.some.injEq, Prod.mk.injEq] at e
      obtain ⟨rfl, rfl⟩ := e
      simp only [OpR.setMem, Option.some.injEq, OpR.val.injEq, true_and] at h0
      subst h0
      exact ⟨m2, by simp only [memStep, h1, OpR.setMem], Two.refl _ _⟩
    | skip m1 =>
      simp only [Option.some.injEq, Prod.mk.injEq] at e
      obtain ⟨rfl, rfl⟩ := e
      simp only [OpR.setMem, Option.some.injEq, OpR.skip.injEq] at h0
      subst h0
      exact ⟨m2, by simp only [memStep, h1, OpR.setMem], Two.refl _ _⟩
    | call f args m1 => exact absurd he (hc _ _ _ _)
    | defer f cap => simp at e
    | panic v => simp at e
theorem idle_val {o : Oper} (f : Option V) (hf : ∀ m, evOp X m t o = f.map fun v => OpR.val v m) : idleOp X t o ∧ ∀ m f args m', evOp X m t o ≠ some (.call f args m') := by
  refine ⟨fun m m2 => ?_, fun m g args m' hc => ?_⟩
  · rw [hf, hf]
    cases f <;> rfl
  · rw [hf] at hc
    cases f <;> simp at hc
def Computes (X : Env) (t : Tm) (o : Oper) : Prop := ∃ f : Option V, ∀ m, evOp X m t o = f.map fun v => .val v m
theorem computes_two {call : CallF} {v : V} {m' : Mem} (h : Computes X t o) (e : memStep X call o t m = some (v, m')) {W Z : List (Nat × Nat)} : ∃ m2', memStep X call o t m2 = some (v, m2') ∧ Two W Z m m2 m' m2' := by
  obtain ⟨f, hf⟩ := h
  obtain ⟨h1, h2⟩ := idle_val f hf
  exact idle_two h1 h2 e
def valOf : OpR → Option V
  | .val v _ => some v
  | _ => none
theorem c_of (h : ∀ m, evOp X m t o = ((evOp X ⟨.nil, []⟩ t o).bind valOf).map fun v => OpR.val v m) : Computes X t o := ⟨_, h⟩
theorem bindVal (f : Option V) (m m0 : Mem) : (f.map fun v => OpR.val v m) = (((f.map fun v => OpR.val v m0)).bind valOf).map fun v => OpR.val v m := by cases f <;> rfl
theorem c_move {x : Operand} (hop : o.op = .move x) : Computes X t o := c_of fun m => by simp only [evOp, hop]; rfl
theorem c_pick {c a b : Operand} (hop : o.op = .pick c a b) : Computes X t o := c_of fun m => by simp only [evOp, hop]; split <;> rfl
theorem c_nilCheck {x : Operand} (hop : o.op = .nilCheck x) : Computes X t o := c_of fun m => by simp only [evOp, hop]; split <;> rfl
theorem c_binOp {op : BinOp} {ty ty' : TypeId} {x y : Operand} (hop : o.op = .binOp op ty x y ty') : Computes X t o := c_of fun m => by simp only [evOp, hop]; exact bindVal _ _ _
theorem c_unOp {op : UnOp} {ty : TypeId} {x : Operand} (hop : o.op = .unOp op ty x) : Computes X t o := c_of fun m => by simp only [evOp, hop]; exact bindVal _ _ _
theorem c_convert {s d : TypeId} {x : Operand} (hop : o.op = .convert s d x) : Computes X t o := c_of fun m => by simp only [evOp, hop]; split <;> rfl
theorem c_makeInterface {ty : TypeId} {x : Operand} (hop : o.op = .makeInterface ty x) : Computes X t o := c_of fun m => by simp only [evOp, hop]; split <;> rfl
theorem c_slice {ty : TypeId} {x : Operand} {lo hi mx : Option Operand} (hop : o.op = .slice ty x lo hi mx) : Computes X t o := c_of fun m => by
  cases mx with
  | some y => simp only [evOp, hop]; rfl
  | none =>
    simp only [evOp, hop]
    split
    all_goals first
      | rfl
      | (split <;> first | rfl | (split <;> rfl))
theorem c_fieldAddr {ty : TypeId} {x : Operand} {f : Nat} (hop : o.op = .fieldAddr ty x f) : Computes X t o := c_of fun m => by
  simp only [evOp, hop]
  split
  · split
    · split
      · rfl
      · split <;> rfl
    · rfl
  · rfl
theorem c_field {ty : TypeId} {x : Operand} {f : Nat} (hop : o.op = .field ty x f) : Computes X t o := c_of fun m => by
  simp only [evOp, hop]
  split
  · split
    · exact bindVal _ _ _
    · rfl
  · rfl
theorem c_indexAddr {ty : TypeId} {x i : Operand} (hop : o.op = .indexAddr ty x i) : Computes X t o := c_of fun m => by
  simp only [evOp, hop]
  split
  · split
    · split <;> rfl
    · split
      · split
        · split <;> rfl
        · rfl
      · rfl
    · rfl
  · split
    · split <;> rfl
    · rfl
  · rfl
theorem c_index {ty : TypeId} {x i : Operand} (hop : o.op = .index ty x i) : Computes X t o := c_of fun m => by
  simp only [evOp, hop]
  split
  · split
    · split <;> rfl
    · rfl
  · split
    · exact bindVal _ _ _
    · rfl
  · rfl
theorem c_extract {x : Operand} {i : Nat} (hop : o.op = .extract x i) : Computes X t o := c_of fun m => by
  simp only [evOp, hop]
  split
  · exact bindVal _ _ _
  · rfl
theorem c_typeAssert {x : Operand} {xt ty : TypeId} {ok : Bool} (hop : o.op = .typeAssert x xt ty ok) : Computes X t o := c_of fun m => by
  simp only [evOp, hop]
  split
  · split
    · rfl
    · split <;> rfl
  · rfl
theorem c_builtin {c : Call} {b : Builtin} (hop : o.op = .call c) (hb : c.callee = .builtin b) (hna : b ≠ .append) : Computes X t o := c_of fun m => by
  simp only [evOp, hop, hb]
  unfold Ev.builtin
  split
  · split <;> rfl
  · exact absurd rfl hna
  · rfl
  · rfl
  · rfl
  · rfl
end
end Go.Ev
namespace Go.Ev
section
variable {X : Env} {t : Tm} {o : Oper} {W Z R : List (Nat × Nat)} {m m2 : Mem}
theorem var_two {dst : Nat} {v : V} {ty : TypeId} (h : Agree W Z [] m m2) (hw : (m.out.length, dst) ∈ W) :
    Two W Z m m2 ((filled m dst v).1.new dst 0 ty false [(filled m dst v).2]) ((filled m2 dst v).1.new dst 0 ty false [(filled m2 dst v).2]) ∧ (filled m2 dst v).1.newRef dst 0 = (filled m dst v).1.newRef dst 0 := by
  obtain ⟨t1, e1⟩ := filled_two (v := v) h hw
  obtain ⟨t2, e2⟩ := new_two (i := 0) (ty := ty) (arr := false) (es := [(filled m dst v).2]) (t1.agree h (by simp)) (by rw [filled_len]; exact hw)
  exact ⟨by rw [e1]; exact t1.trans t2, e2⟩
theorem nilIn_two {d : Nat} {v : V} (h : Agree W Z R m m2) (hz : ∀ p ∈ rows1 v, p ∈ Z) : nilIn m2 d v = nilIn m d v := by
  cases v with
  | rs r ty off len =>
    have := h.row (r := r) (.inr (hz _ (by simp [rows1])))
    simp only [nilIn, this]
  | _ => rfl
theorem unNil1_two {r : Ref} {off : Nat} {v : V} (h : Agree W Z R m m2) (hw : (r.d, r.s) ∈ W) (hz : ∀ p ∈ rows1 v, p ∈ Z) : Two W Z m m2 (unNil1 m r off v).1 (unNil1 m2 r off v).1 ∧ (unNil1 m2 r off v).2 = (unNil1 m r off v).2 := by
  unfold unNil1
  rw [nilIn_two h hz]
  split
  · have := h.w _ hw (500 + off)
    simp only [look] at this
    cases h1 : m.rows r.d with
    | none =>
      rw [h1] at this
      cases h2 : m2.rows r.d with
      | none => exact ⟨Two.refl _ _, rfl⟩
      | some f => rw [h2] at this; simp at this
    | some f =>
      rw [h1] at this
      cases h2 : m2.rows r.d with
      | none => rw [h2] at this; simp at this
      | some f2 =>
        rw [h2] at this
        simp only [Option.map_some, Option.some.injEq] at this
        simp only [← this]
        exact ⟨Two.set hw, trivial⟩
  · exact ⟨Two.refl _ _, rfl⟩
theorem unNilL_two {r : Ref} (hw : (r.d, r.s) ∈ W) : ∀ {cs : List V} {off : Nat} {m m2 : Mem}, Agree W Z [] m m2 → (∀ c ∈ cs, ∀ p ∈ rows1 c, p ∈ Z) →
    Two W Z m m2 (unNilL m r off cs).1 (unNilL m2 r off cs).1 ∧ (unNilL m2 r off cs).2 = (unNilL m r off cs).2
  | [], _, _, _, _, _ => ⟨Two.refl _ _, rfl⟩
  | c :: cs, off, m, m2, h, hz => by
    obtain ⟨t1, e1⟩ := unNil1_two (off := off) (v := c) h hw (hz c List.mem_cons_self)
    obtain ⟨t2, e2⟩ := unNilL_two (off := off + 1) hw (t1.agree h (by simp)) (fun x hx => hz x (List.mem_cons_of_mem _ hx))
    exact ⟨t1.trans t2, by simp only [unNilL, e1, e2]⟩
theorem unNil_two {r : Ref} {off : Nat} {v : V} (h : Agree W Z [] m m2) (hw : (r.d, r.s) ∈ W) (hz : ∀ p ∈ rowsOf v, p ∈ Z) : Two W Z m m2 (unNil m r off v).1 (unNil m2 r off v).1 ∧ (unNil m2 r off v).2 = (unNil m r off v).2 := by
  cases v with
  | agg cs =>
    have hz' : ∀ c ∈ cs, ∀ p ∈ rows1 c, p ∈ Z := by
      intro c hc p hp
      by_cases hl : cs.any V.loose = true
      · refine hz p ?_
        simp only [rowsOf, hl, if_true]
        exact List.mem_flatMap.2 ⟨c, hc, hp⟩
      · exfalso
        rw [List.any_eq_true] at hl
        refine hl ⟨c, hc, ?_⟩
        cases c <;> simp [rows1] at hp <;> rfl
    have hany : cs.any (nilIn m2 r.d) = cs.any (nilIn m r.d) := by
      rw [Bool.eq_iff_iff, List.any_eq_true, List.any_eq_true]
      constructor
      · rintro ⟨c, hc, e⟩; exact ⟨c, hc, by rw [← nilIn_two h (hz' c hc)]; exact e⟩
      · rintro ⟨c, hc, e⟩; exact ⟨c, hc, by rw [nilIn_two h (hz' c hc)]; exact e⟩
    obtain ⟨t1, e1⟩ := unNilL_two (cs := cs) (off := off) hw h hz'
    simp only [unNil, hany]
    split
    · exact ⟨t1, by rw [e1]⟩
    · exact ⟨Two.refl _ _, rfl⟩
  | _ => exact unNil1_two h hw hz
theorem unfz_eq {a b : Row} (h : unfz b = unfz a) : b.ty = a.ty ∧ b.arr = a.arr ∧ b.es = a.es := by
  cases a; cases b
  simp only [unfz, Row.mk.injEq] at h
  exact ⟨h.2.1, h.2.2.1, h.2.2.2.2⟩
theorem elemsOf_two {x : V} (h : Agree W Z R m m2) (hr : ∀ y ∈ rowsOf x, y ∈ R) : elemsOf m2 x = elemsOf m x := by
  cases x with
  | rs r ty off len =>
    have hr' : (r.d, r.s) ∈ R := hr _ (by simp [rowsOf, rows1])
    have := h.rowR (r := r) hr'
    simp only [elemsOf]
    cases h1 : m.row r with
    | none =>
      rw [h1] at this
      cases h2 : m2.row r with
      | none => rfl
      | some b => rw [h2] at this; simp at this
    | some a =>
      rw [h1] at this
      cases h2 : m2.row r with
      | none => rw [h2] at this; simp at this
      | some b =>
        rw [h2] at this
        simp only [Option.map_some, Option.some.injEq] at this
        obtain ⟨_, e1, e2⟩ := unfz_eq this
        simp only [e1, e2]
  | _ => rfl
theorem appendTo_two {dst : Nat} {ty : TypeId} {s : V} {xs : List V} {p : V × Mem} (h : Agree W Z R m m2) (hw : (m.out.length, dst) ∈ W) (hs : ∀ y ∈ rowsOf s, y ∈ W) (e : appendTo X m dst ty s xs = some p) :
    ∃ m2', appendTo X m2 dst ty s xs = some (p.1, m2') ∧ Two W Z m m2 p.2 m2' := by
  unfold appendTo at e ⊢
  cases s with
  | rs r rty off len =>
    have hr' : (r.d, r.s) ∈ W := hs _ (by simp [rowsOf, rows1])
    simp only at e ⊢
    rw [h.row (r := r) (.inl hr')]
    split at e
    · rename_i row hrow
      split at e
      · rename_i hc
        simp only [Option.some.injEq] at e; subst e
        exact ⟨_, by rw [if_pos hc], Two.set hr'⟩
      · simp at e
    · simp at e
  | nilS =>
    simp only at e ⊢
    split at e
    · rename_i hc
      simp only [Option.some.injEq] at e; subst e
      obtain ⟨t1, e1⟩ := new_two (i := 0) (ty := ty) (arr := true) (es := xs) h hw
      exact ⟨_, by rw [if_pos hc, e1], t1⟩
    · simp at e
  | _ => simp at e
def ValTwo (X : Env) (W Z : List (Nat × Nat)) (m m2 : Mem) (t : Tm) (o : Oper) : Prop := ∀ r, evOp X m t o = some r →
  (∃ v m' m2', r = .val v m' ∧ evOp X m2 t o = some (.val v m2') ∧ Two W Z m m2 m' m2') ∨ (∃ m' m2', r = .skip m' ∧ evOp X m2 t o = some (.skip m2') ∧ Two W Z m m2 m' m2')
theorem ValTwo.step {call : CallF} {v : V} {m' : Mem} (h : ValTwo X W Z m m2 t o) (e : memStep X call o t m = some (v, m')) : ∃ m2', memStep X call o t m2 = some (v, m2') ∧ Two W Z m m2 m' m2' := by
  unfold memStep at e
  cases hr : evOp X m t o with
  | none => simp [hr] at e
  | some r =>
    rw [hr] at e
    rcases h r hr with ⟨u, m1, m2', rfl, h2, ht⟩ | ⟨m1, m2', rfl, h2, ht⟩
    · simp only [Option.some.injEq, Prod.mk.injEq] at e
      obtain ⟨rfl, rfl⟩ := e
      exact ⟨m2', by simp only [memStep, h2], ht⟩
    · simp only [Option.some.injEq, Prod.mk.injEq] at e
      obtain ⟨rfl, rfl⟩ := e
      exact ⟨m2', by simp only [memStep, h2], ht⟩
theorem two_alloc {ty : TypeId} (hop : o.op = .alloc ty) (ha : Agree W Z R m m2) (hw : (m.out.length, o.dst.getD 0) ∈ W) : ValTwo X W Z m m2 t o := by
  intro r e
  simp only [evOp, hop] at e ⊢
  cases hz : zeroOf X.P ty with
  | none => simp [hz] at e
  | some z =>
    simp only [hz, Option.some.injEq] at e ⊢
    subst e
    obtain ⟨t1, e1⟩ := var_two (v := z) (ty := ty) (dst := o.dst.getD 0) ha.noR hw
    exact .inl ⟨_, _, _, rfl, by rw [e1], t1⟩
theorem two_box {ty : TypeId} {x : Operand} (hop : o.op = .box ty x) (ha : Agree W Z R m m2) (hw : (m.out.length, o.dst.getD 0) ∈ W) : ValTwo X W Z m m2 t o := by
  intro r e
  simp only [evOp, hop] at e ⊢
  split at e
  · rename_i hc
    simp only [Option.some.injEq] at e
    subst e
    rw [if_pos hc]
    obtain ⟨t1, e1⟩ := var_two (v := opd X t x) (ty := ty) (dst := o.dst.getD 0) ha.noR hw
    exact .inl ⟨_, _, _, rfl, by rw [e1], t1⟩
  · simp at e
theorem two_assign {x : Operand} (hop : o.op = .assign x) (ha : Agree W Z R m m2) (hw : (opd X t x).refs = true → (m.out.length, o.dst.getD 0) ∈ W) : ValTwo X W Z m m2 t o := by
  intro r e
  simp only [evOp, hop, Option.some.injEq] at e ⊢
  subst e
  by_cases hr : (opd X t x).refs = true
  · obtain ⟨t1, e1⟩ := filled_two (v := opd X t x) (s := o.dst.getD 0) ha.noR (hw hr)
    exact .inl ⟨_, _, _, rfl, by rw [e1], t1⟩
  · have key : ∀ m s, filled m s (opd X t x) = (m, opd X t x) := by
      intro m s
      cases hv : opd X t x with
      | agg cs =>
        rw [hv] at hr
        simp only [filled]
        rw [if_neg]
        intro hn
        apply hr
        simp only [V.refs]
        obtain ⟨u, hu, hun⟩ := List.any_eq_true.1 hn
        exact List.any_eq_true.2 ⟨u, hu, by cases u <;> first | rfl | (simp [V.isNilS] at hun)⟩
      | nilS => rw [hv] at hr; simp [V.refs, V.loose] at hr
      | _ => rfl
    rw [key, key]
    exact .inl ⟨_, _, _, rfl, rfl, Two.refl _ _⟩
theorem two_build {ty : TypeId} {ps : Array (Nat × Operand)} (hop : o.op = .build ty ps) (ha : Agree W Z R m m2) (hw : (m.out.length, o.dst.getD 0) ∈ W) : ValTwo X W Z m m2 t o := by
  intro r e
  simp only [evOp, hop] at e ⊢
  split at e
  · rename_i z hz
    split at e
    · rename_i cs hcs
      split at e
      · rename_i hp
        simp only [Option.some.injEq] at e
        subst e
        simp only [hcs, if_pos hp]
        obtain ⟨t1, e1⟩ := filled_two (v := .agg cs) (s := o.dst.getD 0) ha.noR hw
        exact .inl ⟨_, _, _, rfl, by rw [e1], t1⟩
      · simp at e
    · simp at e
  · simp at e
theorem zero_two {P : Program} {ty : TypeId} {z : V} (hz : zeroOf P ty = some z) (m m2 : Mem) : snap m2 z = snap m z := by
  unfold zeroOf at hz
  split at hz
  · rename_i x hx
    split at hz
    · simp only [Option.some.injEq] at hz
      subst hz
      have cell1 : ∀ (m m2 : Mem) (x : Value), snap1 m2 (ofCell x) = snap1 m (ofCell x) := by
        intro m m2 x
        cases x with
        | pointer a => cases a <;> rfl
        | slice a l c => simp only [ofCell]; split <;> rfl
        | func fn a b => cases fn with
          | func f => simp only [ofCell]; split <;> rfl
          | _ => rfl
        | _ => rfl
      have cellL : ∀ (l : List Value), snapL m2 (l.map ofCell) = snapL m (l.map ofCell) := by
        intro l
        induction l with
        | nil => rfl
        | cons c l ih => simp only [List.map_cons, snapL, cell1 m m2, ih]
      unfold ofValue
      split
      · split
        · simp only [snap]; split
          · rw [cellL]
          · rfl
        · rfl
      · rename_i hna
        have : ∀ m, snap m (ofCell x) = snap1 m (ofCell x) := by
          intro m
          cases x with
          | pointer a => cases a <;> rfl
          | slice a l c => simp only [ofCell]; split <;> rfl
          | func fn a b => cases fn with
            | func f => simp only [ofCell]; split <;> rfl
            | _ => rfl
          | _ => rfl
        rw [this, this, cell1 m m2]
    · simp at hz
  · simp at hz
theorem two_makeSlice {ty : TypeId} {l c : Operand} (hop : o.op = .makeSlice ty l c) (ha : Agree W Z R m m2) (hw : (m.out.length, o.dst.getD 0) ∈ W) : ValTwo X W Z m m2 t o := by
  intro r e
  simp only [evOp, hop] at e ⊢
  split at e
  · rename_i el n k hel hn hk
    split at e
    · rename_i z hz
      have hs : snap m2 z = snap m z := zero_two hz m m2
      rw [hs]
      split at e
      · rename_i z' hz'
        split at e
        · rename_i hc
          simp only [Option.some.injEq] at e
          subst e
          rw [if_pos hc]
          obtain ⟨t1, e1⟩ := new_two (i := 0) (ty := el) (arr := true) (es := List.replicate n.toNat z') ha hw
          exact .inl ⟨_, _, _, rfl, by rw [e1], t1⟩
        · simp at e
      · simp at e
    · simp at e
  · simp at e
end
end Go.Ev
namespace Go.Ev
section
variable {X : Env} {t : Tm} {o : Oper} {W Z R : List (Nat × Nat)} {m m2 : Mem}
theorem two_load {ty : TypeId} {a : Operand} (hop : o.op = .load ty a) (ha : Agree W Z R m m2) (hr : ∀ x ∈ rowsOf (opd X t a), x ∈ R) : ValTwo X W Z m m2 t o := by
  intro r e
  simp only [evOp, hop] at e ⊢
  cases hv : opd X t a with
  | ptr r j off =>
    rw [hv] at hr e
    simp only at e ⊢
    have hrow := ha.rowR (r := r) (hr _ (by simp [rowsOf, rows1]))
    cases h1 : m.row r with
    | none => simp [h1] at e
    | some a1 =>
      rw [h1] at hrow e
      cases h2 : m2.row r with
      | none => rw [h2] at hrow; simp at hrow
      | some b =>
        rw [h2] at hrow
        simp only [Option.map_some, Option.some.injEq] at hrow
        obtain ⟨e1, _, e2⟩ := unfz_eq hrow
        simp only at e ⊢
        rw [e1, e2]
        cases hel : a1.es[j]? with
        | none => simp [hel] at e
        | some el =>
          simp only [hel] at e ⊢
          obtain ⟨u, hu, rfl⟩ := Option.map_eq_some_iff.1 e
          rw [hu]
          exact .inl ⟨_, _, _, rfl, rfl, Two.refl _ _⟩
  | cptr el ety off =>
    rw [hv] at e
    simp only at e ⊢
    obtain ⟨u, hu, rfl⟩ := Option.map_eq_some_iff.1 e
    rw [hu]
    exact .inl ⟨_, _, _, rfl, rfl, Two.refl _ _⟩
  | _ => rw [hv] at e; simp at e
theorem two_buildSlice {ty : TypeId} {n : Nat} {ps : Array (Nat × Operand)} (hop : o.op = .buildSlice ty n ps) (ha : Agree W Z R m m2) (hw : (m.out.length, o.dst.getD 0) ∈ W)
    (hz : ∀ v ∈ ps.toList.map (fun p => opd X t p.2), ∀ x ∈ rowsOf v, x ∈ Z) : ValTwo X W Z m m2 t o := by
  intro r e
  simp only [evOp, hop] at e ⊢
  split at e
  · rename_i el hel
    rw [snaps_two ha _ hz]
    split at e
    · rename_i z vs hzz hvs
      rw [zero_two hzz m m2]
      split at e
      · rename_i z' hz'
        split at e
        · rename_i hc
          rw [if_pos hc]
          split at e
          · rename_i es hes
            simp only [Option.some.injEq] at e; subst e
            try rw [hes]
            have t0 := frzs_two (W := W) (Z := Z) _ m m2 ha.noR hz
            obtain ⟨t1, e1⟩ := new_two (i := 0) (ty := el) (arr := true) (es := es) (s := o.dst.getD 0) (t0.agree ha.noR (by simp)) (by rw [frzs_len]; exact hw)
            exact .inl ⟨_, _, _, rfl, by rw [e1], t0.trans t1⟩
          · simp at e
        · simp at e
      · simp at e
    · simp at e
  · simp at e
theorem two_makeFunc {fn : Fn} {first cap : Array Operand} (hop : o.op = .makeFunc fn first cap) (ha : Agree W Z R m m2) (hz : ∀ v ∈ mapOpd X t first.toList, ∀ x ∈ rowsOf v, x ∈ Z) : ValTwo X W Z m m2 t o := by
  intro r e
  cases fn with
  | func f =>
    simp only [evOp, hop] at e ⊢
    rw [snaps_two ha _ hz]
    split at e
    · rename_i fs hfs
      split at e
      · rename_i hc
        simp only [Option.some.injEq] at e; subst e
        rw [if_pos hc]
        exact .inl ⟨_, _, _, rfl, rfl, frzs_two (W := W) (Z := Z) _ m m2 ha.noR hz⟩
      · simp at e
    · simp at e
  | _ => simp [evOp, hop] at e
theorem two_store {ty : TypeId} {x y : Operand} (hop : o.op = .store ty x y) (ha : Agree W Z R m m2) (hw : ∀ p ∈ rowsOf (opd X t x), p ∈ W) (hz : ∀ p ∈ rowsOf (opd X t y), p ∈ Z) : ValTwo X W Z m m2 t o := by
  intro rr e
  simp only [evOp, hop] at e ⊢
  split at e
  · rename_i r j off hv
    rw [hv] at hw
    have hr : (r.d, r.s) ∈ W := hw _ (by simp [rowsOf, rows1])
    rw [ha.row (r := r) (.inl hr)]
    split at e
    · rename_i row hrow
      split at e
      · rename_i harr
        rw [if_pos harr, snap_two ha hz]
        split at e
        · rename_i v hsv
          have t0 := frz_two (W := W) (Z := Z) (v := opd X t y) ha.noR hz
          have a0 := t0.agree ha.noR (by simp)
          rw [a0.row (r := r) (.inl hr)]
          split at e
          · rename_i row1 hrow1
            split at e
            · rename_i hc
              rw [if_pos hc]
              split at e
              · rename_i row' hse
                simp only [Option.some.injEq] at e; subst e
                try rw [hse]
                exact .inr ⟨_, _, rfl, rfl, t0.trans (Two.set hr)⟩
              · simp at e
            · simp at e
          · simp at e
        · simp at e
      · rename_i harr
        rw [if_neg harr]
        obtain ⟨t0, e0⟩ := unNil_two (off := off) (v := opd X t y) ha.noR hr hz
        have a0 := t0.agree ha.noR (by simp)
        rw [e0, a0.row (r := r) (.inl hr)]
        split at e
        · rename_i row1 hrow1
          split at e
          · rename_i hc
            rw [if_pos hc]
            split at e
            · rename_i row' hse
              simp only [Option.some.injEq] at e; subst e
              try rw [hse]
              exact .inr ⟨_, _, rfl, rfl, t0.trans (Two.set hr)⟩
            · simp at e
          · simp at e
        · simp at e
    · simp at e
  · simp at e
theorem two_append {c : Call} {s x : V} (hop : o.op = .call c) (hb : c.callee = .builtin .append) (hargs : mapOpd X t c.args.toList = [s, x]) (ha : Agree W Z R m m2) (hw : (m.out.length, o.dst.getD 0) ∈ W)
    (hs : ∀ p ∈ rowsOf s, p ∈ W) (hr : ∀ p ∈ rowsOf x, p ∈ R) : ValTwo X W Z m m2 t o := by
  intro r e
  simp only [evOp, hop, hb, hargs, Ev.builtin] at e ⊢
  split at e
  · rename_i ty d hty hd
    have fin : ∀ xs, (appendTo X m (o.dst.getD 0) ty s xs).map (fun p => OpR.val p.1 p.2) = some r →
        (∃ v m' m2', r = .val v m' ∧ (appendTo X m2 (o.dst.getD 0) ty s xs).map (fun p => OpR.val p.1 p.2) = some (.val v m2') ∧ Two W Z m m2 m' m2') := by
      intro xs e
      obtain ⟨p, hp, rfl⟩ := Option.map_eq_some_iff.1 e
      obtain ⟨m2', h1, h2⟩ := appendTo_two ha hw hs hp
      exact ⟨_, _, m2', rfl, by rw [h1]; rfl, h2⟩
    split at e
    · split at e
      · split at e
        · rename_i h1
          simp only [if_pos h1]
          exact .inl (fin _ e)
        · simp at e
      · simp at e
    · rename_i hns
      rw [elemsOf_two ha hr]
      split at e
      · rename_i xs el hxs
        try rw [hxs]
        exact .inl (fin _ e)
      · simp at e
  · simp at e
theorem two_call {c : Call} {f : Operand} {call : CallF} {v : V} {m' : Mem} (hop : o.op = .call c) (hb : c.callee = .value f) (ha : Agree W Z R m m2) (hw : (m.out.length, o.dst.getD 0) ∈ W)
    (hz : ∀ u ∈ mapOpd X t c.args.toList, ∀ x ∈ rowsOf u, x ∈ Z) (hp : (mapOpd X t c.args.toList).any ptrs = false) (hpf : ptrs (opd X t f) = false)
    (hff : (match calleeOf (opd X t f) with | some (_, first, _) => first.any V.refs | none => false) = false) (e : memStep X call o t m = some (v, m')) :
    ∃ m2', memStep X call o t m2 = some (v, m2') ∧ Two W Z m m2 m' m2' := by
  unfold memStep at e ⊢
  simp only [evOp, hop, hb] at e ⊢
  cases hcal : calleeOf (opd X t f) with
  | none => simp [hcal] at e
  | some q =>
    obtain ⟨g, first, cap⟩ := q
    rw [hcal] at hff
    simp only [hcal] at e hff ⊢
    have hcap : cap = [] := by
      unfold calleeOf at hcal
      split at hcal
      · rename_i h
        simp only [Option.some.injEq, Prod.mk.injEq] at hcal
        obtain ⟨rfl, rfl, rfl⟩ := hcal
        rw [h] at hpf
        simpa [ptrs, ptr1] using hpf
      · simp at hcal
    rw [snaps_two ha _ hz]
    cases has : snaps m (mapOpd X t c.args.toList) with
    | none => simp [has] at e
    | some az =>
      simp only [has] at e ⊢
      by_cases hok : callOk X.P g = true
      rotate_left
      · simp [hok] at e
      simp only [hok, if_true] at e ⊢
      have hrefs : (first ++ az ++ cap).any V.refs = false := by
        rw [hcap, List.append_nil, List.any_append, hff, snaps_refs _ _ has hp]
        rfl
      have t0 : Two W Z m m2 (if scalarRes X.P g = true ∧ (first ++ az ++ cap).any V.refs = false then m else frzs m (mapOpd X t c.args.toList))
          (if scalarRes X.P g = true ∧ (first ++ az ++ cap).any V.refs = false then m2 else frzs m2 (mapOpd X t c.args.toList)) := by
        split
        · exact Two.refl _ _
        · exact frzs_two _ _ _ ha.noR hz
      have l0 : (if scalarRes X.P g = true ∧ (first ++ az ++ cap).any V.refs = false then m else frzs m (mapOpd X t c.args.toList)).out.length = m.out.length := by
        split
        · rfl
        · exact frzs_len _ _
      generalize (if scalarRes X.P g = true ∧ (first ++ az ++ cap).any V.refs = false then m else frzs m (mapOpd X t c.args.toList)) = m1 at e t0 l0
      generalize (if scalarRes X.P g = true ∧ (first ++ az ++ cap).any V.refs = false then m2 else frzs m2 (mapOpd X t c.args.toList)) = m3 at t0 ⊢
      have a0 := t0.agree ha.noR (by simp)
      have fin : ∀ u, install m1 (o.dst.getD 0) u = install m1 (o.dst.getD 0) u → Two W Z m m2 (install m1 (o.dst.getD 0) u).1 (install m3 (o.dst.getD 0) u).1 ∧ (install m3 (o.dst.getD 0) u).2 = (install m1 (o.dst.getD 0) u).2 := by
        intro u _
        obtain ⟨t1, e1⟩ := install_two (v := u) a0 (by rw [l0]; exact hw)
        exact ⟨t0.trans t1, e1⟩
      unfold doCall at e ⊢
      split at e
      · rename_i r r1 hdo
        split at hdo
        · rename_i u hu
          split at hdo
          · rename_i hc
            simp only [Option.some.injEq, Prod.mk.injEq, Res.ret.injEq] at hdo e
            obtain ⟨rfl, rfl⟩ := hdo
            obtain ⟨rfl, rfl⟩ := e
            obtain ⟨t1, e1⟩ := fin u rfl
            simp only [if_pos hc]
            exact ⟨_, by rw [e1], t1⟩
          · simp at hdo
        · rename_i hu
          simp only [hrefs, Bool.false_eq_true, if_false] at hdo ⊢
          split at hdo
          · rename_i u out hcl
            split at hdo
            · rename_i hc
              simp only [Option.some.injEq, Prod.mk.injEq, Res.ret.injEq] at hdo e
              obtain ⟨rfl, rfl⟩ := hdo
              obtain ⟨rfl, rfl⟩ := e
              obtain ⟨t1, e1⟩ := fin u rfl
              simp only [if_pos hc]
              exact ⟨_, by rw [e1], t1⟩
            · simp at hdo
          · split at hdo <;> simp at hdo
          · simp at hdo
      · simp at e
theorem memStep_two {call : CallF} {st : St} {v : V} {m' : Mem} (hall : (foot X st o).all = false) (ha : Agree (foot X st o).w (foot X st o).z (foot X st o).r st.m m2) (e : memStep X call o st.t st.m = some (v, m')) :
    ∃ m2', memStep X call o st.t m2 = some (v, m2') ∧ Two (foot X st o).w (foot X st o).z st.m m2 m' m2' := by
  cases hop : o.op with
  | move x => exact computes_two (c_move hop) e
  | pick c a b => exact computes_two (c_pick hop) e
  | nilCheck x => exact computes_two (c_nilCheck hop) e
  | binOp op ty x y b => exact computes_two (c_binOp hop) e
  | unOp op ty x => exact computes_two (c_unOp hop) e
  | convert s d x => exact computes_two (c_convert hop) e
  | makeInterface ty x => exact computes_two (c_makeInterface hop) e
  | slice ty x lo hi mx => exact computes_two (c_slice hop) e
  | fieldAddr ty x f => exact computes_two (c_fieldAddr hop) e
  | field ty x f => exact computes_two (c_field hop) e
  | indexAddr ty x i => exact computes_two (c_indexAddr hop) e
  | index ty x i => exact computes_two (c_index hop) e
  | extract x i => exact computes_two (c_extract hop) e
  | typeAssert x xt ty ok => exact computes_two (c_typeAssert hop) e
  | load ty a => exact (two_load hop ha (by simp only [foot, hop]; exact fun _ h => h)).step e
  | assign x =>
    refine (two_assign hop ha (fun hr => ?_)).step e
    simp only [foot, hop, hr, if_true, List.mem_singleton]
  | alloc ty => exact (two_alloc hop ha (by simp only [foot, hop, List.mem_singleton])).step e
  | box ty x => exact (two_box hop ha (by simp only [foot, hop, List.mem_singleton])).step e
  | build ty ps => exact (two_build hop ha (by simp only [foot, hop, List.mem_singleton])).step e
  | makeSlice ty l c => exact (two_makeSlice hop ha (by simp only [foot, hop, List.mem_singleton])).step e
  | buildSlice ty n ps =>
    refine (two_buildSlice hop ha (by simp only [foot, hop, List.mem_singleton]) (fun v hv x hx => ?_)).step e
    simp only [foot, hop]
    exact List.mem_flatMap.2 ⟨v, hv, hx⟩
  | makeFunc f first cap =>
    refine (two_makeFunc hop ha (fun v hv x hx => ?_)).step e
    simp only [foot, hop]
    exact List.mem_flatMap.2 ⟨v, hv, hx⟩
  | store ty x y =>
    exact (two_store hop ha (by simp only [foot, hop]; exact fun _ h => h) (by simp only [foot, hop]; exact fun _ h => h)).step e
  | call c =>
    cases hb : c.callee with
    | builtin b =>
      by_cases hba : b = .append
      · subst hba
        cases hargs : mapOpd X st.t c.args.toList with
        | nil => simp [foot, hop, hb, hargs, Foot.none] at hall
        | cons s l =>
          cases l with
          | nil => simp [foot, hop, hb, hargs, Foot.none] at hall
          | cons x l =>
            cases l with
            | cons y l => simp [foot, hop, hb, hargs, Foot.none] at hall
            | nil =>
              refine (two_append hop hb hargs ha ?_ ?_ ?_).step e
              · simp [foot, hop, hb, hargs]
              · intro p hp; simp [foot, hop, hb, hargs, hp]
              · intro p hp; simp [foot, hop, hb, hargs, hp]
      · exact computes_two (c_builtin hop hb hba) e
    | value f =>
      simp only [foot, hop, hb, Bool.or_eq_false_iff] at hall
      refine two_call hop hb ha ?_ ?_ hall.1.1 hall.1.2 hall.2 e
      · simp only [foot, hop, hb, List.mem_singleton]
      · intro u hu x hx
        simp only [foot, hop, hb]
        exact List.mem_flatMap.2 ⟨u, hu, hx⟩
    | invoke x n => simp [memStep, evOp, hop, hb] at e
  | defer c => simp [foot, hop, Foot.none] at hall
  | panic x => simp [foot, hop, Foot.none] at hall
  | _ => simp [memStep, evOp, hop] at e
end
end Go.Ev
namespace Go.Ev
section
variable {X : Env} {t t' : Tm} {o : Oper} {W Z R : List (Nat × Nat)} {m m2 : Mem}
theorem mapOpd_congr {l : List Operand} (h : ∀ x ∈ l, opd X t x = opd X t' x) : mapOpd X t l = mapOpd X t' l := List.map_congr_left h
theorem parts_congr {ps : List (Nat × Operand)} (h : ∀ x ∈ ps.map (·.2), opd X t x = opd X t' x) :
    (ps.map fun p => (p.1, opd X t p.2)) = (ps.map fun p => (p.1, opd X t' p.2)) ∧ (ps.map fun p => opd X t p.2) = (ps.map fun p => opd X t' p.2) :=
  ⟨List.map_congr_left fun p hp => by rw [h p.2 (List.mem_map.2 ⟨p, hp, rfl⟩)], List.map_congr_left fun p hp => h p.2 (List.mem_map.2 ⟨p, hp, rfl⟩)⟩
theorem evOp_congr (h : ∀ x ∈ o.op.operands.toList, opd X t x = opd X t' x) : evOp X m t o = evOp X m t' o := by
  cases hop : o.op with
  | call c =>
    rw [hop] at h
    have ha : mapOpd X t c.args.toList = mapOpd X t' c.args.toList := mapOpd_congr fun x hx => h x (by simp [Op.operands, Call.operands, Array.mem_toList_iff.1 hx])
    cases hb : c.callee with
    | builtin b => simp only [evOp, hop, hb, ha]
    | value f =>
      have hf : opd X t f = opd X t' f := h f (by simp [Op.operands, Call.operands, hb])
      simp only [evOp, hop, hb, ha, hf]
    | invoke x n => simp only [evOp, hop, hb]
  | defer c =>
    rw [hop] at h
    cases hb : c.callee with
    | value f =>
      have hf : opd X t f = opd X t' f := h f (by simp [Op.operands, Call.operands, hb])
      simp only [evOp, hop, hb, hf]
    | builtin b => simp only [evOp, hop, hb]
    | invoke x n => simp only [evOp, hop, hb]
  | build ty ps =>
    rw [hop] at h
    obtain ⟨h1, h2⟩ := parts_congr (ps := ps.toList) (X := X) (t := t) (t' := t') (fun x hx => h x (by simpa [Op.operands] using hx))
    simp only [evOp, hop, h1, h2]
  | buildSlice ty n ps =>
    rw [hop] at h
    obtain ⟨h1, h2⟩ := parts_congr (ps := ps.toList) (X := X) (t := t) (t' := t') (fun x hx => h x (by simpa [Op.operands] using hx))
    simp only [evOp, hop, h1, h2]
  | makeFunc fn first cap =>
    rw [hop] at h
    have h1 : mapOpd X t first.toList = mapOpd X t' first.toList := mapOpd_congr fun x hx => h x (by simp [Op.operands, Array.mem_toList_iff.1 hx])
    have h2 : mapOpd X t cap.toList = mapOpd X t' cap.toList := mapOpd_congr fun x hx => h x (by simp [Op.operands, Array.mem_toList_iff.1 hx])
    cases fn <;> simp only [evOp, hop, h1, h2]
  | slice ty x lo hi mx =>
    rw [hop] at h
    have h1 : opd X t x = opd X t' x := h x (by simp [Op.operands])
    have h2 : lo.map (opd X t) = lo.map (opd X t') := by cases lo with
      | none => rfl
      | some y => simp only [Option.map_some]; rw [h y (by simp [Op.operands])]
    have h3 : hi.map (opd X t) = hi.map (opd X t') := by cases hi with
      | none => rfl
      | some y => simp only [Option.map_some]; rw [h y (by simp [Op.operands])]
    cases mx <;> simp only [evOp, hop, h1, h2, h3]
  | move x => rw [hop] at h; simp only [evOp, hop, h x (by simp [Op.operands])]
  | assign x => rw [hop] at h; simp only [evOp, hop, h x (by simp [Op.operands])]
  | pick c x y => rw [hop] at h; simp only [evOp, hop, h c (by simp [Op.operands]), h x (by simp [Op.operands]), h y (by simp [Op.operands])]
  | alloc ty => simp only [evOp, hop]
  | box ty x => rw [hop] at h; simp only [evOp, hop, h x (by simp [Op.operands])]
  | load ty x => rw [hop] at h; simp only [evOp, hop, h x (by simp [Op.operands])]
  | store ty x y => rw [hop] at h; simp only [evOp, hop, h x (by simp [Op.operands]), h y (by simp [Op.operands])]
  | nilCheck x => rw [hop] at h; simp only [evOp, hop, h x (by simp [Op.operands])]
  | binOp op ty x y b => rw [hop] at h; simp only [evOp, hop, h x (by simp [Op.operands]), h y (by simp [Op.operands])]
  | unOp op ty x => rw [hop] at h; simp only [evOp, hop, h x (by simp [Op.operands])]
  | convert s d x => rw [hop] at h; simp only [evOp, hop, h x (by simp [Op.operands])]
  | makeInterface ty x => rw [hop] at h; simp only [evOp, hop, h x (by simp [Op.operands])]
  | makeSlice ty x y => rw [hop] at h; simp only [evOp, hop, h x (by simp [Op.operands]), h y (by simp [Op.operands])]
  | fieldAddr ty x f => rw [hop] at h; simp only [evOp, hop, h x (by simp [Op.operands])]
  | field ty x f => rw [hop] at h; simp only [evOp, hop, h x (by simp [Op.operands])]
  | indexAddr ty x y => rw [hop] at h; simp only [evOp, hop, h x (by simp [Op.operands]), h y (by simp [Op.operands])]
  | index ty x y => rw [hop] at h; simp only [evOp, hop, h x (by simp [Op.operands]), h y (by simp [Op.operands])]
  | typeAssert x xt ty ok => rw [hop] at h; simp only [evOp, hop, h x (by simp [Op.operands])]
  | extract x i => rw [hop] at h; simp only [evOp, hop, h x (by simp [Op.operands])]
  | panic x => rw [hop] at h; simp only [evOp, hop, h x (by simp [Op.operands])]
  | _ => simp only [evOp, hop]
theorem foot_congr {st st' : St} (h : ∀ x ∈ o.op.operands.toList, opd X st.t x = opd X st'.t x) (hl : st.m.out.length = st'.m.out.length) : foot X st o = foot X st' o := by
  cases hop : o.op with
  | call c =>
    rw [hop] at h
    have ha : mapOpd X st.t c.args.toList = mapOpd X st'.t c.args.toList := mapOpd_congr fun x hx => h x (by simp [Op.operands, Call.operands, Array.mem_toList_iff.1 hx])
    cases hb : c.callee with
    | builtin b => cases b <;> simp only [foot, hop, hb, ha, hl]
    | value f =>
      have hf : opd X st.t f = opd X st'.t f := h f (by simp [Op.operands, Call.operands, hb])
      simp only [foot, hop, hb, ha, hf, hl]
    | invoke x n => simp only [foot, hop, hb]
  | buildSlice ty n ps =>
    rw [hop] at h
    obtain ⟨h1, h2⟩ := parts_congr (ps := ps.toList) (X := X) (t := st.t) (t' := st'.t) (fun x hx => h x (by simpa [Op.operands] using hx))
    simp only [foot, hop, h2, hl]
  | makeFunc fn first cap =>
    rw [hop] at h
    have h1 : mapOpd X st.t first.toList = mapOpd X st'.t first.toList := mapOpd_congr fun x hx => h x (by simp [Op.operands, Array.mem_toList_iff.1 hx])
    simp only [foot, hop, h1]
  | assign x => rw [hop] at h; simp only [foot, hop, h x (by simp [Op.operands]), hl]
  | load ty x => rw [hop] at h; simp only [foot, hop, h x (by simp [Op.operands])]
  | store ty x y => rw [hop] at h; simp only [foot, hop, h x (by simp [Op.operands]), h y (by simp [Op.operands])]
  | _ => simp only [foot, hop, hl]
end
end Go.Ev
namespace Go.Ev
section
variable {X : Env} {t t' : Tm} {o : Oper} {W Z R : List (Nat × Nat)} {m m2 : Mem}
theorem Agree.refl (W Z R : List (Nat × Nat)) (m : Mem) : Agree W Z R m m := ⟨rfl, fun _ _ _ => rfl, fun _ _ _ => rfl, fun _ _ _ => rfl⟩
theorem install_len {dst : Nat} {v : V} : (install m dst v).1.out.length = m.out.length := by
  have key : ∀ (vs : List V) (i : Nat) (m : Mem), (inst2s m dst i vs).1.out.length = m.out.length := by
    intro vs
    induction vs with
    | nil => intro i m; rfl
    | cons v vs ih => intro i m; simp only [inst2s]; rw [ih, inst2_len]
  by_cases ht : ∃ vs, v = .tup vs
  · obtain ⟨vs, rfl⟩ := ht
    simp only [install]
    exact key _ _ _
  · have e : install m dst v = inst2 m dst 1000 v := by cases v <;> first | rfl | exact absurd ⟨_, rfl⟩ ht
    rw [e]; exact inst2_len
theorem doCall_len {call : CallF} {f : FuncId} {args : List V} {dst : Nat} {v : V} {m' : Mem} (e : doCall X call f args m dst = some (.ret v, m')) : m'.out.length = m.out.length := by
  unfold doCall at e
  split at e
  · split at e
    · simp only [Option.some.injEq, Prod.mk.injEq] at e
      rw [← e.2]; exact install_len
    · simp at e
  · split at e
    · split at e
      · split at e
        · rename_i hl
          simp only [Option.some.injEq, Prod.mk.injEq] at e
          rw [← e.2, install_len]; exact hl
        · simp at e
      · split at e <;> simp at e
      · simp at e
    · split at e
      · split at e
        · simp only [Option.some.injEq, Prod.mk.injEq] at e
          rw [← e.2]; exact install_len
        · simp at e
      · split at e <;> simp at e
      · simp at e
theorem memStep_len {call : CallF} {st : St} {v : V} {m' : Mem} (e : memStep X call o st.t st.m = some (v, m')) : m'.out.length = st.m.out.length := by
  cases hall : (foot X st o).all with
  | false =>
    obtain ⟨m2', _, L, _, rfl, _⟩ := memStep_two hall (Agree.refl _ _ _ _) e
    simp
  | true =>
    unfold memStep at e
    cases hop : o.op with
    | call c =>
      cases hb : c.callee with
      | builtin b =>
        by_cases hba : b = .append
        · subst hba
          simp only [evOp, hop, hb] at e
          cases hargs : mapOpd X st.t c.args.toList with
          | nil => simp [hargs, Ev.builtin] at e
          | cons s l =>
            cases l with
            | nil => simp [hargs, Ev.builtin] at e
            | cons x l =>
              cases l with
              | nil => simp [foot, hop, hb, hargs, Foot.none] at hall
              | cons y l => simp [hargs, Ev.builtin] at e
        · cases b <;> first | exact absurd rfl hba | (simp [foot, hop, hb, Foot.none] at hall)
      | value f =>
        simp only [evOp, hop, hb] at e
        cases hcal : calleeOf (opd X st.t f) with
        | none => simp [hcal] at e
        | some q =>
          obtain ⟨g, first, cap⟩ := q
          simp only [hcal] at e
          cases has : snaps st.m (mapOpd X st.t c.args.toList) with
          | none => simp [has] at e
          | some az =>
            simp only [has] at e
            by_cases hok : callOk X.P g = true
            rotate_left
            · simp [hok] at e
            simp only [hok, if_true] at e
            split at e
            · rename_i r r1 hdo
              simp only [Option.some.injEq, Prod.mk.injEq] at e
              obtain ⟨rfl, rfl⟩ := e
              rw [doCall_len hdo]
              split
              · rfl
              · exact frzs_len _ _
            · simp at e
      | invoke x n => simp [evOp, hop, hb] at e
    | defer c =>
      simp only [evOp, hop] at e
      split at e
      · rename_i h; split at h <;> (try split at h) <;> simp at h
      · rename_i h; split at h <;> (try split at h) <;> simp at h
      · rename_i h; split at h <;> (try split at h) <;> simp at h
      · simp at e
    | panic x =>
      simp only [evOp, hop] at e
      split at e
      · rename_i h; split at h <;> simp at h
      · rename_i h; split at h <;> simp at h
      · rename_i h; split at h <;> simp at h
      · simp at e
    | _ => simp [foot, hop, Foot.none] at hall
end
end Go.Ev
namespace Go.Ev
structure Acts (f : Foot) (L : Nat) (A : Mem → Option (V × Mem)) : Prop where
  two : ∀ m m2 v m', m.out.length = L → f.all = false → Agree f.w f.z f.r m m2 → A m = some (v, m') → ∃ m2', A m2 = some (v, m2') ∧ Two f.w f.z m m2 m' m2'
  len : ∀ m v m', m.out.length = L → A m = some (v, m') → m'.out.length = L
theorem meet_false {a b : List (Nat × Nat)} (h : meet a b = false) {x : Nat × Nat} (ha : x ∈ a) (hb : x ∈ b) : False := by
  unfold meet at h
  have := List.any_eq_false.1 h x ha
  simp only [List.contains_iff_mem] at this
  exact this hb
theorem idle_spec {f : Foot} (h : f.idle = true) : f.r = [] ∧ f.z = [] ∧ f.w = [] ∧ f.all = false := by
  simp only [Foot.idle, Bool.and_eq_true, List.isEmpty_iff, Bool.not_eq_true'] at h
  exact ⟨h.1.1.1, h.1.1.2, h.1.2, h.2⟩
theorem two_nil {m m2 m' m2' : Mem} (h : Two [] [] m m2 m' m2') : m' = m ∧ m2' = m2 := by
  obtain ⟨L, a1, rfl, rfl, _⟩ := h
  cases L with
  | nil => exact ⟨rfl, rfl⟩
  | cons x L => have := a1 x (by simp); simp at this
theorem acts_idle {f : Foot} {L : Nat} {A : Mem → Option (V × Mem)} (h : Acts f L A) (hi : f.idle = true) {m m2 m' : Mem} {v : V} (hm : m.out.length = L) (hm2 : m2.out.length = L) (e : A m = some (v, m')) : m' = m ∧ A m2 = some (v, m2) := by
  obtain ⟨h1, h2, h3, h4⟩ := idle_spec hi
  obtain ⟨m2', k1, k2⟩ := h.two m m2 v m' hm h4 (by rw [h1, h2, h3]; exact ⟨by omega, by simp, by simp, by simp⟩) e
  rw [h2, h3] at k2
  obtain ⟨rfl, rfl⟩ := two_nil k2
  exact ⟨rfl, k1⟩
theorem agree_after {W Z R W' Z' : List (Nat × Nat)} {m m2 m' m2' : Mem} (h : Two W' Z' m m2 m' m2') (h1 : ∀ x ∈ W, x ∉ W' ∧ x ∉ Z') (h2 : ∀ x ∈ Z, x ∉ W' ∧ x ∉ Z') (h3 : ∀ x ∈ R, x ∉ W') : Agree W Z R m' m := by
  obtain ⟨L, a1, rfl, _, a4⟩ := h
  have same : ∀ x : Nat × Nat, x ∉ W' → x ∉ Z' → SlotEq (app m L) m x := by
    intro x hw hz i
    refine look_app_out L m _ _ _ (fun y hy e => ?_)
    have e' : (y.d, y.s) = x := by rw [e.1, e.2]
    rcases a1 y hy with h1 | h1
    · exact hw (e' ▸ h1)
    · exact hz (e' ▸ h1)
  refine ⟨by simp, fun x hx => same x (h1 x hx).1 (h1 x hx).2, fun x hx => same x (h2 x hx).1 (h2 x hx).2, fun x hx => ?_⟩
  by_cases hz : x ∈ Z'
  · intro i; exact (a4 x hz (h3 x hx) i).symm
  · exact (same x (h3 x hx) hz).read
theorem Agree.symm {W Z R : List (Nat × Nat)} {m m2 : Mem} (h : Agree W Z R m m2) : Agree W Z R m2 m := ⟨h.len.symm, fun x hx i => (h.w x hx i).symm, fun x hx i => (h.z x hx i).symm, fun x hx i => (h.r x hx i).symm⟩
theorem acts_comm {f1 f2 : Foot} {L : Nat} {A1 A2 : Mem → Option (V × Mem)} (h1 : Acts f1 L A1) (h2 : Acts f2 L A2) (hok : f1.ok f2 = true) {m m1 m12 : Mem} {v1 v2 : V} (hm : m.out.length = L) (e1 : A1 m = some (v1, m1)) (e2 : A2 m1 = some (v2, m12)) :
    ∃ m2, A2 m = some (v2, m2) ∧ A1 m2 = some (v1, m12) := by
  have hl1 := h1.len _ _ _ hm e1
  have hl12 := h2.len _ _ _ hl1 e2
  unfold Foot.ok at hok
  by_cases hi1 : f1.idle = true
  · obtain ⟨rfl, k⟩ := acts_idle h1 hi1 hm hl12 e1
    exact ⟨m12, e2, k⟩
  by_cases hi2 : f2.idle = true
  · obtain ⟨rfl, k⟩ := acts_idle h2 hi2 hl1 hm e2
    exact ⟨m, k, e1⟩
  simp only [hi1, hi2, Bool.false_or, Bool.and_eq_true, Bool.not_eq_true'] at hok
  obtain ⟨⟨⟨⟨⟨⟨⟨q1, q2⟩, ww⟩, wz⟩, wr⟩, zw⟩, zz⟩, rw'⟩ := hok
  obtain ⟨_, _, T0⟩ := h1.two m m v1 m1 hm q1 (Agree.refl _ _ _ _) e1
  have ag2 : Agree f2.w f2.z f2.r m1 m := agree_after T0 (fun x hx => ⟨fun h => meet_false ww h hx, fun h => meet_false zw h hx⟩) (fun x hx => ⟨fun h => meet_false wz h hx, fun h => meet_false zz h hx⟩) (fun x hx h => meet_false wr h hx)
  obtain ⟨m2, k1, T2⟩ := h2.two m1 m v2 m12 hl1 q2 ag2 e2
  obtain ⟨_, _, T2'⟩ := h2.two m m v2 m2 hm q2 (Agree.refl _ _ _ _) k1
  have ag1 : Agree f1.w f1.z f1.r m2 m := agree_after T2' (fun x hx => ⟨fun h => meet_false ww hx h, fun h => meet_false wz hx h⟩) (fun x hx => ⟨fun h => meet_false zw hx h, fun h => meet_false zz hx h⟩) (fun x hx h => meet_false rw' hx h)
  obtain ⟨m21, k2, T1⟩ := h1.two m m2 v1 m1 hm q1 ag1.symm e1
  refine ⟨m2, k1, ?_⟩
  obtain ⟨L2, a1, a2, a3, _⟩ := T2
  obtain ⟨L1, b1, b2, b3, _⟩ := T1
  have hc := app_comm L1 L2 m (fun x hx y hy e => by
    have e' : (y.d, y.s) = (x.d, x.s) := by rw [e.1, e.2]
    rcases b1 x hx with h | h <;> rcases a1 y hy with h' | h'
    · exact meet_false ww h (e' ▸ h')
    · exact meet_false wz h (e' ▸ h')
    · exact meet_false zw h (e' ▸ h')
    · exact meet_false zz h (e' ▸ h'))
  have : m21 = m12 := by rw [b3, a3, a2, b2, hc]
  rw [← this]; exact k2
section
variable {X : Env} {call : CallF} {ops : Array Oper}
theorem indep_spec {a b : Oper} (h : indep ops a b = true) : (∀ d, a.dst = some d → d ∉ tmpsOf ops b ∧ b.dst ≠ some d) ∧ (∀ d, b.dst = some d → d ∉ tmpsOf ops a) := by
  unfold indep at h
  simp only [Bool.and_eq_true] at h
  refine ⟨fun d hd => ?_, fun d hd => ?_⟩
  · have h1 := h.1
    rw [hd] at h1
    simp only [Bool.and_eq_true, Bool.not_eq_true'] at h1
    exact ⟨fun hm => by have := h1.1; simp [hm] at this, fun hb => by have := h1.2; simp [hb] at this⟩
  · have h1 := h.2
    rw [hd] at h1
    simp only [Bool.not_eq_true'] at h1
    exact fun hm => by simp [hm] at h1
theorem opd_put {o : Oper} {t : Tm} {dst : Option Nat} {v : V} (h : ∀ d, dst = some d → d ∉ tmpsOf ops o) : ∀ x ∈ o.op.operands.toList, opd X (put t dst v) x = opd X t x := by
  intro x hx
  cases dst with
  | none => rfl
  | some d =>
    cases x with
    | tmp i =>
      have hne : i ≠ d := by
        intro e
        subst e
        exact h i rfl (List.mem_append_left _ (List.mem_filterMap.2 ⟨.tmp i, hx, rfl⟩))
      simp only [opd, put]
      exact Tm.get_set_ne _ _ _ _ hne
    | _ => rfl
theorem wanted_put {o : Oper} {t : Tm} {dst : Option Nat} {v : V} (h : ∀ d, dst = some d → d ∉ tmpsOf ops o) : wantedV ops (put t dst v) o = wantedV ops t o := by
  cases dst with
  | none => rfl
  | some d =>
    unfold wantedV
    cases hg : o.guard with
    | none => rfl
    | some g =>
      obtain ⟨j, want⟩ := g
      simp only
      cases hd : (ops[j]?).bind (·.dst) with
      | none => rfl
      | some e =>
        have hne : e ≠ d := by
          intro he
          subst he
          refine h e rfl (List.mem_append_right _ ?_)
          simp [hg, hd]
        simp only [put, Tm.get_set_ne _ _ _ _ hne]
theorem put_comm {t : Tm} {d1 d2 : Option Nat} {v u : V} (h : ∀ d, d1 = some d → d2 ≠ some d) : put (put t d1 v) d2 u = put (put t d2 u) d1 v := by
  cases d1 with
  | none => rfl
  | some a =>
    cases d2 with
    | none => rfl
    | some b =>
      have hne : a ≠ b := fun e => h a rfl (e ▸ rfl)
      exact Trie.set_comm _ _ _ _ _ hne
def act (X : Env) (call : CallF) (ops : Array Oper) (o : Oper) (t : Tm) (m : Mem) : Option (V × Mem) := if wantedV ops t o then memStep X call o t m else some (.undef, m)
theorem stepD_act (o : Oper) (st : St) : stepD X call ops o st = (act X call ops o st.t st.m).map fun p => { st with t := put st.t o.dst p.1, m := p.2 } := by
  unfold stepD act
  split
  · cases memStep X call o st.t st.m <;> rfl
  · rfl
theorem footD_congr {o : Oper} {st st' : St} (h : ∀ x ∈ o.op.operands.toList, opd X st.t x = opd X st'.t x) (hw : wantedV ops st.t o = wantedV ops st'.t o) (hl : st.m.out.length = st'.m.out.length) : footD X ops o st = footD X ops o st' := by
  unfold footD
  rw [hw, foot_congr h hl]
theorem acts_of (o : Oper) (st : St) : Acts (footD X ops o st) st.m.out.length (act X call ops o st.t) := by
  have hf : ∀ m : Mem, m.out.length = st.m.out.length → foot X { st with m := m } o = foot X st o := fun m hm => foot_congr (fun _ _ => rfl) hm
  refine ⟨fun m m2 v m' hm hall ha e => ?_, fun m v m' hm e => ?_⟩
  · unfold act at e ⊢
    unfold footD at hall ha ⊢
    split at e
    · rename_i hw
      simp only [if_pos hw] at hall ha ⊢
      have := hf m hm
      obtain ⟨m2', k1, k2⟩ := memStep_two (st := { st with m := m }) (by rw [this]; exact hall) (by rw [this]; exact ha) e
      rw [this] at k2
      exact ⟨m2', k1, k2⟩
    · rename_i hw
      simp only [if_neg hw, Option.some.injEq, Prod.mk.injEq] at e ⊢
      obtain ⟨rfl, rfl⟩ := e
      exact ⟨m2, ⟨rfl, rfl⟩, Two.refl _ _⟩
  · unfold act at e
    split at e
    · have := memStep_len (st := { st with m := m }) e
      rw [this]; exact hm
    · simp only [Option.some.injEq, Prod.mk.injEq] at e
      rw [← e.2]; exact hm
theorem stepD_comm {o1 o2 : Oper} {st st1 st12 : St} (hind : indep ops o1 o2 = true) (h1 : stepD X call ops o1 st = some st1) (h2 : stepD X call ops o2 st1 = some st12) (hok : (footD X ops o1 st).ok (footD X ops o2 st1) = true) :
    footD X ops o2 st = footD X ops o2 st1 ∧ ∃ st2, stepD X call ops o2 st = some st2 ∧ stepD X call ops o1 st2 = some st12 ∧ footD X ops o1 st2 = footD X ops o1 st := by
  obtain ⟨i1, i2⟩ := indep_spec hind
  rw [stepD_act] at h1 h2
  obtain ⟨⟨v1, m1⟩, e1, rfl⟩ := Option.map_eq_some_iff.1 h1
  obtain ⟨⟨v2, m12⟩, e2, rfl⟩ := Option.map_eq_some_iff.1 h2
  simp only at e2 hok ⊢
  have ho2 := opd_put (X := X) (t := st.t) (v := v1) (fun d hd => (i1 d hd).1)
  have hw2 := wanted_put (t := st.t) (v := v1) (fun d hd => (i1 d hd).1)
  have ho1 := opd_put (X := X) (t := st.t) (v := v2) i2
  have hw1 := wanted_put (t := st.t) (v := v2) i2
  have A1 := acts_of (X := X) (call := call) (ops := ops) o1 st
  have A2 := acts_of (X := X) (call := call) (ops := ops) o2 st
  have hl1 : m1.out.length = st.m.out.length := A1.len _ _ _ rfl e1
  have hf2 : footD X ops o2 st = footD X ops o2 { st with t := put st.t o1.dst v1, m := m1 } := footD_congr (fun x hx => (ho2 x hx).symm) hw2.symm hl1.symm
  have hact2 : ∀ m, act X call ops o2 (put st.t o1.dst v1) m = act X call ops o2 st.t m := by
    intro m
    unfold act memStep
    rw [hw2, evOp_congr ho2]
  have hact1 : ∀ m, act X call ops o1 (put st.t o2.dst v2) m = act X call ops o1 st.t m := by
    intro m
    unfold act memStep
    rw [hw1, evOp_congr ho1]
  rw [hact2] at e2
  rw [← hf2] at hok
  obtain ⟨m2, k1, k2⟩ := acts_comm A1 A2 hok rfl e1 e2
  refine ⟨hf2, { st with t := put st.t o2.dst v2, m := m2 }, by rw [stepD_act, k1]; rfl, ?_, ?_⟩
  · rw [stepD_act]
    simp only
    rw [hact1, k2]
    simp only [Option.map_some, Option.some.injEq]
    rw [put_comm (fun d hd => (i1 d hd).2)]
  · exact footD_congr ho1 hw1 (A2.len _ _ _ rfl k1)
end
end Go.Ev
