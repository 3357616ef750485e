/- Part 6 of the proof: an evaluator of the program, proved sound against the model, and what the functions of the program compute. No condition but those each theorem states. -/
import Derived.Test.YtpocekfifokndaaDoorG5
import Derived.Recover
import Derived.Test.YtpocekfifokndaaDoorG4
import Derived.Orders
import Derived.WalkKit
import Derived.Shelf.LaysM
import Derived.Shelf.Strings.Split
import Derived.Test.YtpocekfifokndaaDoorProg
import Derived.Test.YtpocekfifokndaaDoorG1
import Derived.Lib.SplitLaws
import Derived.Deep.Slices
import Derived.Carry
import Derived.OpenShut
import Derived.ProofKit
import Derived.JoinedCond
import Derived.Deep.DeepHandedRow
import Derived.Test.YtpocekfifokndaaDoorCards
import Derived.Test.YtpocekfifokndaaDoorTie
import Derived.KernelRfl
import Derived.JoinedOf
import Derived.SevenTiedAt
set_option linter.unusedSimpArgs false
set_option linter.unusedVariables false
namespace Go.Ev
section
variable {X : Env} {I : Imm} {w : World} {φ : Phi} {m : Mem}
def DfsOk (P : Program) (I : Imm) (w : World) (φ : Phi) : List (FuncId × List V) → List Deferred → Prop
  | [], [] => True
  | (f, cap) :: ds, d :: dd => (∃ ys : List Value, d = { target := .fn (.func f) ⟨ys⟩, args := #[] } ∧ All2 (Rel P I w φ) cap ys) ∧ DfsOk P I w φ ds dd
  | _, _ => False
theorem DfsOk.ext {P : Program} {I' : Imm} {w' : World} {φ' : Phi} (h : Ext I w φ I' w' φ') : ∀ {ds : List (FuncId × List V)} {dd : List Deferred}, DfsOk P I w φ ds dd → DfsOk P I' w' φ' ds dd
  | [], [], _ => trivial
  | (_, _) :: _, _ :: _, ⟨⟨ys, e, a⟩, t⟩ => ⟨⟨ys, e, a.mono fun _ _ hr => hr.ext h⟩, DfsOk.ext h t⟩
  | [], _ :: _, h' => h'.elim
  | _ :: _, [], h' => h'.elim
structure StOk (X : Env) (I : Imm) (w : World) (φ : Phi) (n L : Nat) (st : St) (a : Act) : Prop where
  mem : MemOk X.P I w φ st.m
  tm : TmOk X I w φ st.t a
  size : a.tmps.size = n
  dfs : DfsOk X.P I w φ st.dfs a.defers
  glob : GlobOk X I w
  old : ∀ b o, I b o → b < w.heap.size
  len : st.m.out.length = L
def OutQ (X : Env) (I0 : Imm) (w0 : World) (φ0 : Phi) (n L : Nat) (r : Out × St) (e : Exit) (a : Act) (w : World) : Prop :=
  ∃ I φ, Ext I0 w0 φ0 I w φ ∧ StOk X I w φ n L r.2 a ∧
    match r.1, e with
    | .normal, .normal => True
    | .exit i, .exit j => i = j
    | .ret, .ret => True
    | .panic v, .panic chain => ∃ x, chain = [{ v := x, recovered := false }] ∧ Rel X.P I w φ v x
    | _, _ => False
theorem StOk.put {n L : Nat} {st : St} {a : Act} {m' : Mem} {I' : Imm} {w' : World} {φ' : Phi} (h : StOk X I w φ n L st a) (he : Ext I w φ I' w' φ') (hm : MemOk X.P I' w' φ' m') (hl : m'.out.length = L) {dst : Option Nat} (hd : ∀ d, dst = some d → d < n)
    {v : V} {x : Value} (hr : Rel X.P I' w' φ' v x) : StOk X I' w' φ' n L { st with t := Ev.put st.t dst v, m := m' } (a.put dst x) := by
  have htm : TmOk X I' w' φ' (Ev.put st.t dst v) (a.put dst x) := by
    cases dst with
    | none => exact fun i => (h.tm i).ext he
    | some d =>
      have hdn := hd d rfl
      intro i
      simp only [Ev.put, Act.put]
      by_cases hi : i = d
      · subst hi
        rw [Tm.get_set_same]
        have hsz := h.size
        have hlt : i < a.tmps.size := by omega
        have : (a.tmps.setIfInBounds i x).getD i Go.undef = x := by simp [hlt]
        rw [this]; exact hr
      · rw [Tm.get_set_ne _ _ _ _ hi]
        have : (a.tmps.setIfInBounds d x).getD i Go.undef = a.tmps.getD i Go.undef := by
          simp [Array.getElem?_setIfInBounds_ne (Ne.symm hi)]
        rw [this]; exact (h.tm i).ext he
  refine ⟨hm, htm, ?_, ?_, h.glob.ext he, he.old h.old, hl⟩
  · cases dst <;> simp [Act.put, h.size]
  · have := h.dfs.ext he
    cases dst <;> exact this
theorem StOk.ext {n L : Nat} {st : St} {a : Act} {m' : Mem} {I' : Imm} {w' : World} {φ' : Phi} (h : StOk X I w φ n L st a) (he : Ext I w φ I' w' φ') (hm : MemOk X.P I' w' φ' m') (hl : m'.out.length = L) : StOk X I' w' φ' n L { st with m := m' } a :=
  ⟨hm, fun i => (h.tm i).ext he, h.size, h.dfs.ext he, h.glob.ext he, he.old h.old, hl⟩
theorem wanted_ok {n L : Nat} {st : St} {a : Act} (h : StOk X I w φ n L st a) (ops : Array Oper) (o : Oper) : wantedV ops st.t o = Region.wanted o (yielded ops a.tmps) := by
  unfold wantedV Region.wanted
  cases o.guard with
  | none => rfl
  | some g =>
    obtain ⟨j, want⟩ := g
    simp only [yielded]
    cases hd : (ops[j]?).bind (·.dst) with
    | none => simp
    | some d =>
      have hr := h.tm d
      simp only [Option.bind_some]
      cases hv : st.t.get d with
      | bool b =>
        rw [hv] at hr
        have hb := rel_bool hr
        have : a.tmps[d]? = some (.bool b) := by
          cases ht : a.tmps[d]? with
          | none => rw [Array.getD_eq_getD_getElem?, ht] at hb; simp [Go.undef] at hb
          | some y => rw [Array.getD_eq_getD_getElem?, ht] at hb; simp at hb; rw [hb]
        rw [this]
        cases b <;> cases want <;> rfl
      | _ =>
        have hn : ∀ b, a.tmps[d]? ≠ some (.bool b) := by
          intro b hb
          have hb' : a.tmps.getD d Go.undef = .bool b := by rw [Array.getD_eq_getD_getElem?, hb]; rfl
          rw [hv, hb'] at hr
          cases hr with
          | p h => cases h <;> rename_i hn <;> exact hn b rfl
        simp only
        first
          | rfl
          | (split
             · rename_i b hb; exact absurd hb (hn b)
             · rfl)
theorem upon_sound {call : CallF} (hcall : CallOk X call) (hext : ExtOk X) {n L : Nat} {st : St} {a : Act} (h : StOk X I w φ n L st a) {o : Oper} (hd : ∀ d, o.dst = some d → d < n) {r : OpR} (e : evOp X st.m st.t o = some r)
    {next : Act → World → Prop} {Q : Exit → Act → World → Prop}
    (hv : ∀ v m, r = .val v m → ∀ a' w' I' φ', Ext I w φ I' w' φ' → StOk X I' w' φ' n L { st with t := put st.t o.dst v, m } a' → next a' w')
    (hs : ∀ m, r = .skip m → ∀ a' w' I' φ', Ext I w φ I' w' φ' → StOk X I' w' φ' n L { st with t := put st.t o.dst .undef, m } a' → next a' w')
    (hc : ∀ f args m, r = .call f args m → ∃ res, doCall X call f args m (o.dst.getD 0) = some res ∧
      (∀ v m', res = (.ret v, m') → ∀ a' w' I' φ', Ext I w φ I' w' φ' → StOk X I' w' φ' n L { st with t := put st.t o.dst v, m := m' } a' → next a' w') ∧
      (∀ v m', res = (.panic v, m') → ∀ w' I' φ' x, Ext I w φ I' w' φ' → StOk X I' w' φ' n L { st with m := m' } a → Rel X.P I' w' φ' v x → Q (.panic [{ v := x, recovered := false }]) a w'))
    (hdf : ∀ f cap, r = .defer f cap → ∀ a', StOk X I w φ n L { st with t := put st.t o.dst .undef, dfs := (f, cap) :: st.dfs } a' → next a' w)
    (hp : ∀ v, r = .panic v → ∀ x, Rel X.P I w φ v x → Q (.panic [{ v := x, recovered := false }]) a w) :
    o.upon X.P a next Q ((execOp a.eval o).run X.P w) := by
  have hpost := evOp_sound h.mem h.old h.tm h.glob e
  cases r with
  | val v m' =>
    obtain ⟨x, w', I', φ', hrun, he, hm', hr, hl⟩ := hpost
    rw [hrun]
    exact hv v m' rfl _ _ I' φ' he (h.put he hm' (by rw [hl]; exact h.len) hd hr)
  | skip m' =>
    obtain ⟨w', I', φ', hrun, he, hm', hl⟩ := hpost
    rw [hrun]
    exact hs m' rfl _ _ I' φ' he (h.put he hm' (by rw [hl]; exact h.len) hd (.p .undef))
  | call f args m' =>
    obtain ⟨hok, xs, hrun, hl, hargs⟩ := hpost
    rw [hrun]
    obtain ⟨res, hdo, hret, hpan⟩ := hc f args m' rfl
    have hcalls := doCall_sound hcall hext h.old h.glob hl h.mem hargs hdo
    simp only [Oper.upon]
    refine Calls.mono hcalls (fun e w' hpost => ?_)
    obtain ⟨rr, m''⟩ := res
    cases rr with
    | ret v =>
      cases e with
      | returned x =>
        obtain ⟨I', φ', he, hm', hl', hr⟩ := hpost
        exact hret v m'' rfl _ _ I' φ' he (h.put he hm' (by rw [hl']; exact h.len) hd hr)
      | panicked c => exact hpost.elim
      | outgrown => exact hpost.elim
    | panic v =>
      cases e with
      | returned x => exact hpost.elim
      | panicked c =>
        obtain ⟨I', φ', x, rfl, he, hm', hl', hr⟩ := hpost
        exact hpan v m'' rfl _ I' φ' x he (h.ext he hm' (by rw [hl']; exact h.len)) hr
      | outgrown => exact hpost.elim
  | defer f cap =>
    obtain ⟨ys, hrun, hr⟩ := hpost
    rw [hrun]
    simp only [Oper.upon]
    refine hdf f cap rfl _ ?_
    have := h.put (Ext.refl _ _ _) h.mem h.len hd (v := .undef) (x := Go.undef) (.p .undef)
    have hdfs : DfsOk X.P I w φ ((f, cap) :: st.dfs) ({ target := .fn (.func f) ⟨ys⟩, args := #[] } :: a.defers) := ⟨⟨ys, rfl, hr⟩, h.dfs⟩
    cases ho : o.dst with
    | none =>
      rw [ho] at this
      exact ⟨this.mem, this.tm, this.size, hdfs, this.glob, this.old, this.len⟩
    | some d =>
      rw [ho] at this
      exact ⟨this.mem, this.tm, this.size, hdfs, this.glob, this.old, this.len⟩
  | panic v =>
    obtain ⟨x, hrun, hr⟩ := hpost
    rw [hrun]
    exact hp v rfl x hr
theorem skip_ok {n L : Nat} {st : St} {a : Act} (h : StOk X I w φ n L st a) {dst : Option Nat} (hd : ∀ d, dst = some d → d < n) : StOk X I w φ n L { st with t := put st.t dst .undef } (a.put dst Go.undef) :=
  h.put (Ext.refl _ _ _) h.mem h.len hd (.p .undef)
theorem evOps_sound {call : CallF} (hcall : CallOk X call) (hext : ExtOk X) {n L : Nat} (ops : Array Oper) {I0 : Imm} {w0 : World} {φ0 : Phi} {r : Out × St} :
    ∀ (l : List Oper) (st : St) (I : Imm) (w : World) (φ : Phi) (a : Act), (∀ o ∈ l, ∀ d, o.dst = some d → d < n) → Ext I0 w0 φ0 I w φ → StOk X I w φ n L st a → evOps X call ops l st = some r →
      wpList X.P ops (OutQ X I0 w0 φ0 n L r) l a w
  | [], st, I, w, φ, a, _, he, h, e => by
    simp only [evOps, Option.some.injEq] at e; subst e
    exact ⟨I, φ, he, h, trivial⟩
  | o :: rest, st, I, w, φ, a, hd, he, h, e => by
    have hd0 := hd o (by simp)
    have ih := fun st' I' w' φ' a' => evOps_sound hcall hext (L := L) ops (I0 := I0) (w0 := w0) (φ0 := φ0) (r := r) rest st' I' w' φ' a' (fun o ho => hd o (by simp [ho]))
    rw [evOps] at e
    rw [wpList, ← wanted_ok h]
    split at e
    · rename_i hw
      rw [if_pos hw]
      left
      cases ho : evOp X st.m st.t o with
      | none => simp [ho] at e
      | some rr =>
        rw [ho] at e
        refine upon_sound hcall hext h hd0 ho ?_ ?_ ?_ ?_ ?_
        · rintro v m rfl a' w' I' φ' he' h'
          exact ih _ _ _ _ _ (he.trans he') h' e
        · rintro m rfl a' w' I' φ' he' h'
          exact ih _ _ _ _ _ (he.trans he') h' e
        · rintro f args m rfl
          simp only at e
          cases hdo : doCall X call f args m (o.dst.getD 0) with
          | none => simp [hdo] at e
          | some res =>
            refine ⟨res, rfl, ?_, ?_⟩
            · rintro v m' rfl a' w' I' φ' he' h'
              simp only [hdo] at e
              exact ih _ _ _ _ _ (he.trans he') h' e
            · rintro v m' rfl w' I' φ' x he' h' hr
              simp only [hdo, Option.some.injEq] at e; subst e
              exact ⟨I', φ', he.trans he', h', x, rfl, hr⟩
        · rintro f cap rfl a' h'
          exact ih _ _ _ _ _ he h' e
        · rintro v rfl x hr
          simp only [Option.some.injEq] at e; subst e
          exact ⟨I, φ, he, h, x, rfl, hr⟩
    · rename_i hw
      rw [if_neg hw]
      exact ih _ _ _ _ _ he (skip_ok h hd0) e
end
end Go.Ev
namespace Go.Ev
section
variable {X : Env} {I : Imm} {w : World} {φ : Phi} {m : Mem}
def DrawSound (X : Env) (call : CallF) : Prop := ∀ (id : Nat) (ops : Array Oper) (n L : Nat) (st st' : St) (I : Imm) (w : World) (φ : Phi) (a : Act), drawOk ops = true → (∀ o ∈ ops.toList, ∀ d, o.dst = some d → d < n) →
  StOk X I w φ n L st a → evOpsD X call ops (deps ops.toList) 0 [] ops.toList st = some st' → (Code.region id ops true).wp X.P (OutQ X I w φ n L (.normal, st')) a w
def CodeSound (X : Env) (k : Nat) : Prop := ∀ (c : Code) (st : St) (r : Out × St) (n L : Nat) (I : Imm) (w : World) (φ : Phi) (a : Act), codeOk n c = true → StOk X I w φ n L st a → evC X k c st = some r →
  c.wp X.P (OutQ X I w φ n L r) a w
theorem OutQ.back {n L : Nat} {r : Out × St} {e : Exit} {a : Act} {w0 w' : World} {I0 : Imm} {φ0 : Phi} (he : Ext I0 w0 φ0 I w φ) (h : OutQ X I w φ n L r e a w') : OutQ X I0 w0 φ0 n L r e a w' := by
  obtain ⟨I', φ', k1, k2, k3⟩ := h
  exact ⟨I', φ', he.trans k1, k2, k3⟩
theorem regionOk {n : Nat} {id : Nat} {ops : Array Oper} {b : Bool} (h : codeOk n (.region id ops b) = true) : ∀ o ∈ ops.toList, ∀ d, o.dst = some d → d < n := by
  intro o ho d hd
  simp only [codeOk, List.all_eq_true] at h
  have := h o ho
  rw [hd] at this
  simpa using this
theorem exists_least {p : Nat → Prop} (h : ∃ j, p j) : ∃ j, p j ∧ ∀ i, p i → j ≤ i := by
  obtain ⟨j, hj⟩ := h
  induction j using Nat.strongRecOn with
  | _ j ih =>
    by_cases hs : ∃ i, i < j ∧ p i
    · obtain ⟨i, hi, hp⟩ := hs
      exact ih i hi hp
    · refine ⟨j, hj, fun i hp => ?_⟩
      rcases Nat.lt_or_ge i j with h | h
      · exact absurd ⟨i, h, hp⟩ hs
      · exact h
theorem code_zero : CodeSound X 0 := fun c st r n L I w φ a _ _ e => by simp [evC] at e
theorem code_succ {k : Nat} (hc : CodeSound X k) (hloop : ∀ j, j ≤ k → CodeSound X j) (hcall : CallOk X (evFn X k)) (hext : ExtOk X) (hdraw : DrawSound X (evFn X k)) : CodeSound X (k + 1) := by
  intro c st r n L I w φ a hok h e
  cases c with
  | skip =>
    simp only [evC, Option.some.injEq] at e; subst e
    exact wp_skip ⟨I, φ, Ext.refl _ _ _, h, trivial⟩
  | label l =>
    simp only [evC, Option.some.injEq] at e; subst e
    exact wp_label ⟨I, φ, Ext.refl _ _ _, h, trivial⟩
  | seq x y =>
    simp only [codeOk, Bool.and_eq_true] at hok
    simp only [evC] at e
    refine wp_seq ?_
    split at e
    · rename_i st' hx
      refine wp_mono (hc x st _ n L I w φ a hok.1 h hx) (fun ex a' w' hq => ?_)
      obtain ⟨I', φ', k1, k2, k3⟩ := hq
      cases ex <;> simp only at k3 <;> first
        | exact wp_mono (hc y st' r n L I' w' φ' a' hok.2 k2 e) (fun _ _ _ h => h.back k1)
        | exact k3.elim
    · rename_i hx
      have hne : ∀ s, r ≠ (.normal, s) := fun s hs => by
        subst hs
        exact hx s e
      refine wp_mono (hc x st r n L I w φ a hok.1 h e) (fun ex a' w' hq => ?_)
      cases ex with
      | normal =>
        obtain ⟨I', φ', k1, k2, k3⟩ := hq
        obtain ⟨o, s⟩ := r
        cases o <;> first | exact absurd rfl (hne s) | exact k3.elim
      | _ => exact hq
  | cond c x y =>
    simp only [codeOk, Bool.and_eq_true] at hok
    simp only [evC] at e
    have hv := opd_rel h.tm h.glob c
    split at e
    · rename_i hb
      rw [hb] at hv
      exact wp_cond_true (rel_bool hv) (hc x st r n L I w φ a hok.1 h e)
    · rename_i hb
      rw [hb] at hv
      exact wp_cond_false (rel_bool hv) (hc y st r n L I w φ a hok.2 h e)
    · simp at e
  | block id c =>
    simp only [codeOk] at hok
    simp only [evC] at e
    refine wp_block ?_
    split at e
    · rename_i i st' hx
      refine wp_mono (hc c st _ n L I w φ a hok h hx) (fun ex a' w' hq => ?_)
      obtain ⟨I', φ', k1, k2, k3⟩ := hq
      cases ex <;> simp only at k3 <;> try exact k3.elim
      rename_i j
      subst k3
      simp only [Exit.inBlock]
      split at e
      · rename_i hi
        rw [if_pos hi]
        simp only [Option.some.injEq] at e; subst e
        exact ⟨I', φ', k1, k2, trivial⟩
      · rename_i hi
        rw [if_neg hi]
        simp only [Option.some.injEq] at e; subst e
        exact ⟨I', φ', k1, k2, rfl⟩
    · rename_i hx
      have hne : ∀ i s, r ≠ (.exit i, s) := fun i s hs => by
        subst hs
        exact hx i s e
      refine wp_mono (hc c st r n L I w φ a hok h e) (fun ex a' w' hq => ?_)
      cases ex with
      | exit i =>
        obtain ⟨I', φ', k1, k2, k3⟩ := hq
        obtain ⟨o, s⟩ := r
        cases o <;> first | exact absurd rfl (hne _ s) | exact k3.elim
      | _ => exact hq
  | loop c =>
    simp only [codeOk] at hok
    let Inv : Nat → Act → World → Prop := fun j a' w' => j ≤ k + 1 ∧ ∃ st' I' φ', Ext I w φ I' w' φ' ∧ StOk X I' w' φ' n L st' a' ∧ evC X j (.loop c) st' = some r
    let μ : Act → World → Nat := fun a' w' => @dite _ (∃ j, Inv j a' w') (Classical.propDecidable _) (fun hh => Classical.choose (exists_least hh)) (fun _ => 0)
    refine wp_loop (fun a' w' => ∃ j, Inv j a' w') μ ⟨k + 1, Nat.le_refl _, st, I, φ, Ext.refl _ _ _, h, e⟩ (fun a1 w1 hI => ?_)
    have hmin := (Classical.choose_spec (exists_least hI)).1
    have hμ : μ a1 w1 = Classical.choose (exists_least hI) := by simp only [μ, dif_pos hI]
    generalize hj : Classical.choose (exists_least hI) = j at hmin hμ
    obtain ⟨hjk, st1, I1, φ1, k1, k2, k3⟩ := hmin
    cases j with
    | zero => simp [evC] at k3
    | succ j =>
      simp only [evC] at k3
      split at k3
      · rename_i st2 hx
        refine wp_mono (hloop j (by omega) c st1 _ n L I1 w1 φ1 a1 hok k2 hx) (fun ex a' w' hq => ?_)
        obtain ⟨I2, φ2, q1, q2, q3⟩ := hq
        cases ex <;> simp only at q3 <;> try exact q3.elim
        have hInv : Inv j a' w' := ⟨by omega, st2, I2, φ2, k1.trans q1, q2, k3⟩
        refine ⟨⟨j, hInv⟩, ?_⟩
        rw [hμ]
        have : μ a' w' ≤ j := by
          simp only [μ]
          rw [dif_pos ⟨j, hInv⟩]
          exact (Classical.choose_spec (exists_least (p := fun j => Inv j a' w') ⟨j, hInv⟩)).2 j hInv
        omega
      · rename_i hx
        have hne : ∀ s, r ≠ (.normal, s) := fun s hs => by
          subst hs
          exact hx s k3
        refine wp_mono (hloop j (by omega) c st1 r n L I1 w1 φ1 a1 hok k2 k3) (fun ex a' w' hq => ?_)
        cases ex with
        | normal =>
          obtain ⟨I', φ', _, _, q3⟩ := hq
          obtain ⟨o, s⟩ := r
          cases o <;> first | exact absurd rfl (hne s) | exact q3.elim
        | _ => exact hq.back k1
  | exit id =>
    simp only [evC, Option.some.injEq] at e; subst e
    exact wp_exit ⟨I, φ, Ext.refl _ _ _, h, rfl⟩
  | ret =>
    simp only [evC, Option.some.injEq] at e; subst e
    exact wp_ret ⟨I, φ, Ext.refl _ _ _, h, trivial⟩
  | region id ops b =>
    have hd := regionOk hok
    cases b with
    | false =>
      simp only [evC] at e
      exact wp_region_list (evOps_sound hcall hext ops ops.toList st I w φ a hd (Ext.refl _ _ _) h e)
    | true =>
      simp only [evC] at e
      split at e
      · rename_i hdo
        split at e
        · rename_i st' hx
          simp only [Option.some.injEq] at e; subst e
          exact hdraw id ops n L st st' I w φ a hdo hd h hx
        · simp at e
      · simp at e
  | _ => simp [evC] at e
end
end Go.Ev
namespace Go.Ev
section
variable {X : Env} {I : Imm} {w : World} {φ : Phi} {m : Mem}
def resCell (a : Act) : ResultVar → Sem Value
  | .tmp t => pure (a.tmps.getD t Go.undef)
  | .cell c t => do loadVar t (← asAddr (a.tmps.getD c Go.undef))
theorem resVar_sound {st : St} {n L : Nat} {a : Act} (h : StOk X I w φ n L st a) {rv : ResultVar} {v : V} (e : resVar X st.m st.t rv = some v) :
    ∃ x, (resCell a rv).run X.P w = .ok x w ∧ Rel X.P I w φ v x := by
  cases rv with
  | tmp i =>
    simp only [resVar, Option.some.injEq] at e; subst e
    exact ⟨_, rfl, h.tm i⟩
  | cell c ty =>
    simp only [resVar] at e
    have hx := h.tm c
    split at e
    · rename_i r0 j off h0
      rw [h0] at hx
      obtain ⟨l, hl, he⟩ := rel_ptr hx
      split at e
      · rename_i row hrow
        split at e
        · rename_i el hel
          obtain ⟨l', hl', hok⟩ := h.mem.live r0 row hrow (h.mem.zero r0 (by rw [hl]; simp))
          rw [hl] at hl'
          have := Option.some.inj hl'
          subst this
          obtain ⟨_, _, _, _, _, g6, _, _⟩ := hok
          obtain ⟨y, hy, hr⟩ := load_sound (P := X.P) (I := I) (φ := φ) (b := l.b) (o := l.base + j * l.z) (fun c u hc => by
            obtain ⟨z, z1, z2, z3⟩ := g6 j el c u hel hc
            refine ⟨z, z1, z2, ?_⟩
            split at z3
            · exact .p z3
            · exact z3.mono (fun _ _ h => h) (fun _ _ _ _ h => h) Phi.upto_le) e
          refine ⟨y, ?_, hr⟩
          simp only [resCell, he, asAddr, Sem.run_bind, Sem.run_pure, Result.andThen_ok, hy]
        · simp at e
      · simp at e
    · simp at e
theorem resVars_sound {st : St} {n L : Nat} {a : Act} (h : StOk X I w φ n L st a) : ∀ (rs : List ResultVar) (vs : List V), resVars X st.m st.t rs = some vs →
    ∃ xs, (rs.mapM (resCell a)).run X.P w = .ok xs w ∧ All2 (Rel X.P I w φ) vs xs
  | [], vs, e => by
    simp only [resVars, Option.some.injEq] at e; subst e
    exact ⟨[], by simp, .nil⟩
  | rv :: rs, vs, e => by
    simp only [resVars] at e
    split at e
    · rename_i x xs hx hxs
      simp only [Option.some.injEq] at e; subst e
      obtain ⟨y, y1, y2⟩ := resVar_sound h hx
      obtain ⟨ys, z1, z2⟩ := resVars_sound h rs xs hxs
      refine ⟨y :: ys, ?_, .cons y2 z2⟩
      simp only [List.mapM_cons, Sem.run_bind, y1, z1, Result.andThen_ok, Sem.run_pure]
    · simp at e
theorem results_sound {st : St} {n L : Nat} {a : Act} (h : StOk X I w φ n L st a) {fn : Func} {vs : List V} (e : resVars X st.m st.t fn.results.toList = some vs) :
    ∃ x, (results fn a.tmps).run X.P w = .ok x w ∧ Rel X.P I w φ (resOf vs) x := by
  obtain ⟨xs, h1, h2⟩ := resVars_sound h _ vs e
  have hmap : ∀ F : ResultVar → Sem Value, (∀ rv, F rv = resCell a rv) → (fn.results.toList.mapM F).run X.P w = .ok xs w := fun F hF => by rw [show F = resCell a from funext hF]; exact h1
  have hrun : (results fn a.tmps).run X.P w = .ok (if h : xs.toArray.size = 1 then xs.toArray[0] else .tuple xs.toArray) w := by
    unfold results
    simp only [Array.mapM_eq_mapM_toList, Sem.run_bind, Sem.run_map]
    rw [hmap _ (fun rv => by cases rv <;> rfl)]
    rfl
  refine ⟨_, hrun, ?_⟩
  cases vs with
  | nil => rw [h2.nil_left]; exact .tup rfl (fun i v x a _ => by simp at a)
  | cons v vs =>
    obtain ⟨x, ys, rfl, h0, ht⟩ := h2.head
    cases vs with
    | nil => rw [ht.nil_left]; exact h0
    | cons v' vs' =>
      obtain ⟨x', ys', rfl, h0', ht'⟩ := ht.head
      have hne : ¬ ((x :: x' :: ys').toArray.size = 1) := by simp
      rw [dif_neg hne]
      have := h2
      exact .tup this.1 this.2
theorem setAll_get : ∀ (args : List V) (k : Nat) (t : Tm) (i : Nat), (setAll t k args).get i = if k ≤ i ∧ i < k + args.length then (args[i - k]?).getD .undef else t.get i
  | [], k, t, i => by
    rw [setAll, if_neg]
    intro h
    have := h.2
    simp at this
    omega
  | v :: vs, k, t, i => by
    rw [setAll, setAll_get vs (k + 1) (t.set k v) i]
    by_cases h1 : k + 1 ≤ i ∧ i < k + 1 + vs.length
    · rw [if_pos h1, if_pos (by simp; omega)]
      have : i - k = (i - (k + 1)) + 1 := by omega
      rw [this, List.getElem?_cons_succ]
    · rw [if_neg h1]
      by_cases h2 : i = k
      · subst h2
        rw [Tm.get_set_same, if_pos (by simp)]
        simp
      · rw [Tm.get_set_ne _ _ _ _ h2, if_neg (by simp; omega)]
theorem enter_ok {args : List V} {xs : List Value} {out : List Rows} {n : Nat} (hold : ∀ b o, I b o → b < w.heap.size) (hg : GlobOk X I w) (hout : OutOk X.P I w φ out) (ha : All2 (Rel X.P I w φ) args xs) (hn : args.length ≤ n) :
    StOk X I w φ n out.length (enter args out) { tmps := (⟨xs⟩ : Array Value) ++ Array.replicate (n - (⟨xs⟩ : Array Value).size) Go.undef, defers := [] } := by
  have hl : args.length = xs.length := ha.1
  refine ⟨(enter_mem hout).1, fun i => ?_, by simp; omega, trivial, hg, hold, rfl⟩
  simp only [enter]
  rw [setAll_get]
  simp only [Nat.zero_le, true_and, Nat.zero_add, Nat.sub_zero]
  split
  · rename_i hi
    obtain ⟨y, hy, hr⟩ := ha.get (i := i) (v := args[i]) (by simp [hi])
    have hxi : i < xs.length := by omega
    rw [List.getElem?_eq_getElem hi, Array.getD_eq_getD_getElem?, Array.getElem?_append_left (by simpa using hxi)]
    simp only [Option.getD_some]
    have : (⟨xs⟩ : Array Value)[i]? = some y := by simpa using hy
    rw [this]; exact hr
  · rename_i hi
    rw [Tm.get_nil, Array.getD_eq_getD_getElem?, Array.getElem?_append_right (by simp; omega)]
    have : ((Array.replicate (n - (⟨xs⟩ : Array Value).size) Go.undef)[i - (⟨xs⟩ : Array Value).size]?).getD Go.undef = Go.undef := by
      rw [Array.getElem?_replicate]
      split <;> rfl
    rw [this]
    exact .p .undef
def PanOk (P : Program) (I : Imm) (w : World) (φ : Phi) : Option V → FrameMode → Prop
  | none, u => u = .returning
  | some v, u => ∃ x, u = .panicking [{ v := x, recovered := false }] ∧ Rel P I w φ v x
def DSound (X : Env) (call : CallD) : Prop := ∀ f cap out p out', call f cap out p = some out' → ∀ (I : Imm) (w : World) (φ : Phi) (ys : List Value) (u : FrameMode), (∀ b o, I b o → b < w.heap.size) → GlobOk X I w → OutOk X.P I w φ out →
  All2 (Rel X.P I w φ) cap ys → PanOk X.P I w φ p u → callOk X.P f = true ∧ CallsD X.P f ⟨ys⟩ u w (fun e u' w' => (∃ y, e = .returned y) ∧ settle u' = .returning ∧ ∃ I' φ', Ext I w φ I' w' φ' ∧ OutOk X.P I' w' φ' out' ∧ out'.length = out.length)
theorem leaves_sound {call : CallD} (hd : DSound X call) {fn : Func} {tmps : Array Value} {R : Ending → World → Prop} {I0 : Imm} {w0 : World} {φ0 : Phi} {q : Option V} {m' : Mem} {L : Nat} :
    ∀ (ds : List (FuncId × List V)) (dd : List Deferred) (m : Mem) (p : Option V) (u : FrameMode) (I : Imm) (w : World) (φ : Phi), Ext I0 w0 φ0 I w φ → DfsOk X.P I w φ ds dd → MemOk X.P I w φ m → m.out.length = L → (∀ b o, I b o → b < w.heap.size) → GlobOk X I w →
      PanOk X.P I w φ p u → runDefers call ds m p = some (q, m') →
      (∀ u' I' w' φ', Ext I0 w0 φ0 I' w' φ' → MemOk X.P I' w' φ' m' → m'.out.length = L → PanOk X.P I' w' φ' q u' → Leaves X.P fn tmps R [] u' w') → Leaves X.P fn tmps R dd u w
  | [], dd, m, p, u, I, w, φ, he, hdf, hm, hl, _, _, hp, e, fin => by
    simp only [runDefers, Option.some.injEq, Prod.mk.injEq] at e
    obtain ⟨rfl, rfl⟩ := e
    cases dd with
    | nil => exact fin u I w φ he hm hl hp
    | cons => exact hdf.elim
  | (f, cap) :: ds, dd, m, p, u, I, w, φ, he, hdf, hm, hl, hold, hg, hp, e, fin => by
    cases dd with
    | nil => exact hdf.elim
    | cons d dd =>
      obtain ⟨⟨ys, rfl, hcap⟩, ht⟩ := hdf
      simp only [runDefers] at e
      split at e
      · rename_i own out hcl
        obtain ⟨hok, hcalls⟩ := hd f cap _ p _ hcl I w φ ys u hold hg hm hcap hp
        have hu : u ≠ .run := by
          cases p with
          | none => rw [show u = .returning from hp]; simp
          | some v => obtain ⟨x, rfl, _⟩ := hp; simp
        refine leaves_cons (f := f) (args := ⟨ys⟩) hu ?_ (CallsD.mono hcalls fun ed u' w' hpost => ?_)
        · simp only [invoke]
          have : (#[] : Array Value) ++ ⟨ys⟩ = ⟨ys⟩ := by simp
          rw [this]
          exact run_enter hok _
        · obtain ⟨⟨y, rfl⟩, hset, I', φ', k1, k2, k3⟩ := hpost
          simp only
          rw [hset]
          exact leaves_sound hd ds dd ⟨own, out⟩ none .returning I' w' φ' (he.trans k1) (ht.ext k1) k2 ((by simpa using k3 : out.length = m.out.length).trans hl) (k1.old hold) (hg.ext k1) rfl e fin
      · simp at e
theorem ext_below {I' : Imm} {w' : World} {φ' : Phi} {n : Nat} (h : Ext I w φ I' w' φ') (hb : ∀ r, φ r ≠ none → r.d < n) : Ext I w φ I' w' (φ'.below n) := by
  refine ⟨h.imm, h.cell, fun r l hl => ?_, h.hsize, h.os, h.tape, h.output, h.block, fun r l hl => h.fresh r l (Phi.below_le _ _ hl), h.immNew, h.plain, h.old⟩
  unfold Phi.below
  rw [if_pos (hb r (by rw [hl]; simp))]
  exact h.phi r l hl
theorem fn_sound {k : Nat} (hc : CodeSound X k) (hd : DSound X (evD X k)) : CallOk X (evFn X (k + 1)) := by
  intro f args out r e I w φ xs hold hg hout ha
  simp only [evFn] at e
  split at e
  · simp at e
  · rename_i fn hf
    split at e
    · simp at e
    · rename_i c hb
      split at e
      · rename_i hok
        refine calls_of_wp_defers hf hb ?_
        have hent := enter_ok (n := fn.ntmps) hold hg hout ha hok.2
        have hbel := (enter_mem hout).2
        have fin : ∀ (st : St) (p : Option V) (u : FrameMode) (I1 : Imm) (w1 : World) (φ1 : Phi) (a1 : Act), Ext I w φ I1 w1 φ1 → StOk X I1 w1 φ1 fn.ntmps out.length st a1 → PanOk X.P I1 w1 φ1 p u → finish X (evD X k) fn st p = some r →
            Leaves X.P fn a1.tmps (FnPost X.P I w φ out r) a1.defers u w1 := by
          intro st p u I1 w1 φ1 a1 he1 h1 hp hfin
          simp only [finish] at hfin
          split at hfin
          · rename_i v m' hrun
            split at hfin
            · simp at hfin
            rename_i hrefs
            simp only [Option.some.injEq] at hfin; subst hfin
            refine leaves_sound (L := out.length) hd st.dfs a1.defers st.m p u I1 w1 φ1 (Ext.refl _ _ _) h1.dfs h1.mem h1.len h1.old h1.glob hp hrun (fun u' I' w' φ' he' hm' hl' hp' => ?_)
            obtain ⟨x, rfl, hx⟩ := hp'
            have hle := leave_mem hm'
            rw [hl'] at hle
            exact ⟨I', φ'.below out.length, x, rfl, ext_below (he1.trans he') hbel, hle, hl', .p (pureR hx (by simpa using hrefs))⟩
          · rename_i m' hrun
            split at hfin
            · rename_i vs hvs
              split at hfin
              · rename_i v hv
                simp only [Option.some.injEq] at hfin; subst hfin
                refine leaves_sound (L := out.length) hd st.dfs a1.defers st.m p u I1 w1 φ1 (Ext.refl _ _ _) h1.dfs h1.mem h1.len h1.old h1.glob hp hrun (fun u' I' w' φ' he' hm' hl' hp' => ?_)
                have hu : u' = .returning := hp'
                subst hu
                obtain ⟨x, hres, hr⟩ := results_sound (h1.ext he' hm' hl') (fn := fn) hvs
                obtain ⟨I2, U', e2, m2, l2, r2⟩ := mv_sound hm' (he1.trans he') (fun r hr => by rw [hl']; exact hbel r hr) hr hv
                have hle := leave_mem m2
                rw [l2, hl'] at hle
                rw [hl'] at r2
                exact ⟨x, hres, I2, φ'.below out.length, U', ext_below ((he1.trans he').trans e2) hbel, hle, by rw [l2, hl'], r2⟩
              · simp at hfin
            · simp at hfin
          · simp at hfin
        split at e
        · rename_i st hx
          refine wp_mono (hc c _ _ fn.ntmps out.length I w φ _ hok.1 hent hx) (fun ex a' w' hq => ?_)
          obtain ⟨I', φ', k1, k2, k3⟩ := hq
          cases ex <;> simp only at k3 <;> try exact k3.elim
          exact fin st none .returning I' w' φ' a' k1 k2 rfl e
        · rename_i st hx
          refine wp_mono (hc c _ _ fn.ntmps out.length I w φ _ hok.1 hent hx) (fun ex a' w' hq => ?_)
          obtain ⟨I', φ', k1, k2, k3⟩ := hq
          cases ex <;> simp only at k3 <;> try exact k3.elim
          exact fin st none .returning I' w' φ' a' k1 k2 rfl e
        · rename_i v st hx
          refine wp_mono (hc c _ _ fn.ntmps out.length I w φ _ hok.1 hent hx) (fun ex a' w' hq => ?_)
          obtain ⟨I', φ', k1, k2, k3⟩ := hq
          cases ex <;> simp only at k3 <;> try exact k3.elim
          obtain ⟨x, rfl, hx'⟩ := k3
          exact fin st (some v) _ I' w' φ' a' k1 k2 ⟨x, rfl, hx'⟩ e
        · simp at e
      · simp at e
end
end Go.Ev
namespace Go.Ev
section
variable {X : Env} {I : Imm} {w : World} {φ : Phi} {m : Mem}
theorem evOpsS_sound {call : CallF} (hcall : CallOk X call) (hext : ExtOk X) {n L : Nat} (ops : Array Oper) {I0 : Imm} {w0 : World} {φ0 : Phi} {st' : St} {Q : Exit → Act → List Frame → World → Prop} {cs : List Frame}
    (fin : ∀ a' w' I' φ', Ext I0 w0 φ0 I' w' φ' → StOk X I' w' φ' n L st' a' → Q .normal a' cs w') :
    ∀ (l : List Oper) (k : Nat) (st : St) (I : Imm) (w : World) (φ : Phi) (a : Act), (∀ j, l[j]? = ops[k + j]?) → (∀ o ∈ l, ∀ d, o.dst = some d → d < n) → Ext I0 w0 φ0 I w φ → StOk X I w φ n L st a →
      evOps X call ops l st = some (.normal, st') → wpOpsS X.P ops Q (List.range' k l.length) a cs w
  | [], k, st, I, w, φ, a, _, _, he, h, e => by
    simp only [evOps, Option.some.injEq, Prod.mk.injEq, true_and] at e; subst e
    exact fin a w I φ he h
  | o :: rest, k, st, I, w, φ, a, hk, hd, he, h, e => by
    have hd0 := hd o (by simp)
    have hk0 : ops[k]? = some o := by simpa using (hk 0).symm
    have ih := fun st1 I' w' φ' a' => evOpsS_sound hcall hext (L := L) ops (I0 := I0) (w0 := w0) (φ0 := φ0) (st' := st') fin rest (k + 1) st1 I' w' φ' a' (fun j => by have := hk (j + 1); simpa [Nat.add_assoc, Nat.add_comm 1 j] using this) (fun o ho => hd o (by simp [ho]))
    rw [evOps] at e
    rw [List.length_cons, List.range'_succ, wpOpsS]
    simp only [hk0]
    rw [← wanted_ok h]
    split at e
    · rename_i hw
      rw [if_pos hw]
      cases ho : evOp X st.m st.t o with
      | none => simp [ho] at e
      | some rr =>
        rw [ho] at e
        have hu : o.upon X.P a (fun a' w' => wpOpsS X.P ops Q (List.range' (k + 1) rest.length) a' cs w') (fun e a' w' => Q e a' cs w') ((execOp a.eval o).run X.P w) := by
          refine upon_sound hcall hext h hd0 ho ?_ ?_ ?_ ?_ ?_
          · rintro v m rfl a' w' I' φ' he' h'
            exact ih _ _ _ _ _ (he.trans he') h' e
          · rintro m rfl a' w' I' φ' he' h'
            exact ih _ _ _ _ _ (he.trans he') h' e
          · rintro f args m rfl
            simp only at e
            cases hdo : doCall X call f args m (o.dst.getD 0) with
            | none => simp [hdo] at e
            | some res =>
              refine ⟨res, rfl, ?_, ?_⟩
              · rintro v m' rfl a' w' I' φ' he' h'
                simp only [hdo] at e
                exact ih _ _ _ _ _ (he.trans he') h' e
              · rintro v m' rfl w' I' φ' x he' h' hr
                simp [hdo] at e
          · rintro f cap rfl a' h'
            exact ih _ _ _ _ _ he h' e
          · rintro v rfl x hr
            simp at e
        generalize hrun : (execOp a.eval o).run X.P w = rs at hu
        split
        · exact hu.elim
        · exact hu
    · rename_i hw
      rw [if_neg hw]
      exact ih _ _ _ _ _ he (skip_ok h hd0) e
theorem run_recover {a : Act} {o : Oper} (h : isRecover o = true) : o.guard = none ∧ (execOp a.eval o).run X.P w = .ok .recover w := by
  unfold isRecover at h
  split at h
  · rename_i hop hg
    refine ⟨hg, ?_⟩
    simp only [execOp, hop, resolve, Sem.run_bind, Sem.run_pure, Result.andThen_ok, invoke, Go.builtin]
  · simp at h
theorem run_noResults {P : Program} {fn : Func} (h : fn.results.size = 0) (tmps : Array Value) : (results fn tmps).run P w = .ok (.tuple #[]) w := by
  have hr : fn.results = #[] := Array.eq_empty_of_size_eq_zero h
  simp [results, hr]
theorem d_sound {k : Nat} (hc : CodeSound X k) (hcall : CallOk X (evFn X k)) (hext : ExtOk X) : DSound X (evD X (k + 1)) := by
  intro f cap out p out' e I w φ ys u hold hg hout ha hp
  simp only [evD] at e
  split at e
  · simp at e
  · rename_i fn hf
    split at e
    · rename_i id ops c hb
      split at e
      · rename_i o os hops
        split at e
        · rename_i hok
          obtain ⟨hcode, hlen, hrec, hcok⟩ := hok
          refine ⟨hcok, ?_⟩
          split at e
          · rename_i st hx
            have hcode2 : codeOk fn.ntmps (.region 0 ops false) = true ∧ codeOk fn.ntmps c = true := by simpa only [codeOk, Bool.and_eq_true] using hcode
            have hd := regionOk hcode2.1
            rw [hops] at hd
            have hent := enter_ok (n := fn.ntmps) hold hg hout ha hlen
            have hbel := (enter_mem hout).2
            refine callsD_of_wpS hf hb (fun c₀ cs hmode => ?_)
            refine wpS_seq (wpS_region ?_)
            have hrange : List.range ops.size = 0 :: List.range' 1 os.length := by
              rw [← Array.length_toList, hops, List.range_eq_range', List.length_cons, List.range'_succ]
            have ho0 : ops[0]? = some o := by
              have : ops.toList[0]? = some o := by rw [hops]; rfl
              simpa using this
            rw [hrange, wpOpsS]
            simp only [ho0]
            obtain ⟨hgd, hrun⟩ := run_recover (X := X) (w := w) (a := { tmps := (⟨ys⟩ : Array Value) ++ Array.replicate (fn.ntmps - (⟨ys⟩ : Array Value).size) Go.undef, defers := [] }) hrec
            rw [if_pos (by unfold Region.wanted; rw [hgd])]
            simp only [hrun]
            have tail : ∀ (x : Value) (u' : FrameMode), Rel X.P I w φ (p.getD .nilI) x → settle u' = .returning →
                wpOpsS X.P ops (Exit.thenS (c.wpS X.P (bodyPostS X.P fn c₀ cs fun e u' w' => (∃ y, e = .returned y) ∧ settle u' = .returning ∧ ∃ I' φ', Ext I w φ I' w' φ' ∧ OutOk X.P I' w' φ' out' ∧ out'.length = out.length))
                    (bodyPostS X.P fn c₀ cs fun e u' w' => (∃ y, e = .returned y) ∧ settle u' = .returning ∧ ∃ I' φ', Ext I w φ I' w' φ' ∧ OutOk X.P I' w' φ' out' ∧ out'.length = out.length))
                  (List.range' 1 os.length) (({ tmps := (⟨ys⟩ : Array Value) ++ Array.replicate (fn.ntmps - (⟨ys⟩ : Array Value).size) Go.undef, defers := [] } : Act).put o.dst x) ({ c₀ with mode := u' } :: cs) w := by
              intro x u' hx' hset
              have hput := hent.put (Ext.refl _ _ _) hent.mem hent.len (hd o (by simp)) hx'
              refine evOpsS_sound (L := out.length) (n := fn.ntmps) hcall hext ops (I0 := I) (w0 := w) (φ0 := φ) (st' := st) ?_ os 1 _ I w φ _ ?_ (fun o' ho' => hd o' (by simp [ho'])) (Ext.refl _ _ _) hput hx
              · intro a' w' I' φ' he' h'
                have fin : ∀ st', (st'.dfs.length = 0 ∧ fn.results.size = 0) → out' = st'.m.out → ∀ I2 φ2 a2 w2, Ext I w φ I2 w2 φ2 → StOk X I2 w2 φ2 fn.ntmps out.length st' a2 →
                    a2.defers = [] ∧ ∃ u2, ({ c₀ with mode := u' } :: cs : List Frame) = { c₀ with mode := u2 } :: cs ∧ ∃ v, (results fn a2.tmps).run X.P w2 = .ok v w2 ∧
                      ((∃ y, Ending.returned v = .returned y) ∧ settle u2 = .returning ∧ ∃ I' φ', Ext I w φ I' w2 φ' ∧ OutOk X.P I' w2 φ' out' ∧ out'.length = out.length) := by
                  intro st' hz ho I2 φ2 a2 w2 he2 h2
                  subst ho
                  refine ⟨?_, u', rfl, _, run_noResults hz.2 _, ⟨_, rfl⟩, hset, I2, φ2.below out.length, ext_below he2 hbel, ?_, h2.len⟩
                  · have := h2.dfs
                    have hnil : st'.dfs = [] := List.length_eq_zero_iff.1 hz.1
                    rw [hnil] at this
                    cases hdd : a2.defers with
                    | nil => rfl
                    | cons => rw [hdd] at this; exact this.elim
                  · have := leave_mem h2.mem
                    rw [h2.len] at this
                    exact this
                show c.wpS X.P _ a' _ w'
                refine wpS_of_wp ?_
                split at e
                · rename_i st' hy
                  split at e
                  · rename_i hz
                    simp only [Option.some.injEq] at e
                    refine wp_mono (hc c st _ fn.ntmps out.length I' w' φ' a' hcode2.2 h' hy) (fun ex a2 w2 hq => ?_)
                    obtain ⟨I2, φ2, k1, k2, k3⟩ := hq
                    cases ex <;> simp only at k3 <;> try exact k3.elim
                    exact fin st' hz e.symm I2 φ2 a2 w2 (he'.trans k1) k2
                  · simp at e
                · rename_i st' hy
                  split at e
                  · rename_i hz
                    simp only [Option.some.injEq] at e
                    refine wp_mono (hc c st _ fn.ntmps out.length I' w' φ' a' hcode2.2 h' hy) (fun ex a2 w2 hq => ?_)
                    obtain ⟨I2, φ2, k1, k2, k3⟩ := hq
                    cases ex <;> simp only at k3 <;> try exact k3.elim
                    exact fin st' hz e.symm I2 φ2 a2 w2 (he'.trans k1) k2
                  · simp at e
                · simp at e
              · intro j
                have : ops.toList[1 + j]? = os[j]? := by rw [hops, Nat.add_comm, List.getElem?_cons_succ]
                rw [← this]; simp
            cases p with
            | none =>
              have hu : u = .returning := hp
              have hrd : recoverD (c₀ :: cs) = none := by simp [recoverD, hmode, hu]
              rw [hrd]
              have := tail .nilIface .returning (.p .nilI) rfl
              have hc0 : ({ c₀ with mode := .returning } : Frame) = c₀ := by cases c₀; simp_all
              rw [hc0] at this
              exact this
            | some v =>
              obtain ⟨x, hu, hx'⟩ := hp
              have hrd : recoverD (c₀ :: cs) = some (x, { c₀ with mode := .panicking [{ v := x, recovered := true }] } :: cs) := by simp [recoverD, hmode, hu]
              rw [hrd]
              exact tail x _ hx' rfl
          · simp at e
        · simp at e
      · simp at e
    · simp at e
theorem all_sound (hext : ExtOk X) (hdraw : ∀ k, CallOk X (evFn X k) → DrawSound X (evFn X k)) : ∀ k, CallOk X (evFn X k) ∧ DSound X (evD X k) ∧ ∀ j, j ≤ k → CodeSound X j
  | 0 => by
    refine ⟨fun f args out r e => by simp [evFn] at e, fun f cap out p out' e => by simp [evD] at e, fun j hj => ?_⟩
    obtain rfl : j = 0 := by omega
    exact code_zero
  | k + 1 => by
    obtain ⟨h1, h2, h3⟩ := all_sound hext hdraw k
    refine ⟨fn_sound (h3 k (Nat.le_refl _)) h2, d_sound (h3 k (Nat.le_refl _)) h1 hext, fun j hj => ?_⟩
    rcases Nat.lt_or_ge j (k + 1) with h | h
    · exact h3 j (by omega)
    · obtain rfl : j = k + 1 := by omega
      exact code_succ (h3 k (Nat.le_refl _)) (fun j hj => h3 j hj) h1 hext (hdraw k h1)
end
end Go.Ev
namespace Go.Ev
theorem Trie.setF_fuel {α : Type} (a : α) : ∀ (f g n : Nat) (t : Trie α), n ≤ f → n ≤ g → Trie.setF a f t n = Trie.setF a g t n := by
  intro f
  induction f with
  | zero =>
    intro g n t h _
    obtain rfl : n = 0 := by omega
    cases g <;> cases t <;> simp [Trie.setF]
  | succ f ih =>
    intro g n t h h'
    cases g with
    | zero =>
      obtain rfl : n = 0 := by omega
      cases t <;> simp [Trie.setF]
    | succ g =>
      cases t with
      | nil =>
        simp only [Trie.setF]
        split
        · rfl
        · split
          · rw [ih g (n / 2) _ (by omega) (by omega)]
          · rw [ih g (n / 2 - 1) _ (by omega) (by omega)]
      | node v l r =>
        simp only [Trie.setF]
        split
        · rfl
        · split
          · rw [ih g (n / 2) _ (by omega) (by omega)]
          · rw [ih g (n / 2 - 1) _ (by omega) (by omega)]
theorem Trie.set_nil {α : Type} (n : Nat) (a : α) : (Trie.nil : Trie α).set n a = (Trie.node none .nil .nil).set n a := by
  unfold Trie.set
  cases n with
  | zero => rfl
  | succ n => simp [Trie.setF]
theorem Trie.set_node {α : Type} (v : Option α) (l r : Trie α) (n : Nat) (a : α) :
    (Trie.node v l r).set n a = if n = 0 then .node (some a) l r else if n % 2 = 1 then .node v (l.set (n / 2) a) r else .node v l (r.set (n / 2 - 1) a) := by
  unfold Trie.set
  cases n with
  | zero => rfl
  | succ n =>
    simp only [Trie.setF, Nat.succ_ne_zero, if_false]
    split
    · rw [Trie.setF_fuel a n ((n + 1) / 2) ((n + 1) / 2) l (by omega) (by omega)]
    · rw [Trie.setF_fuel a n ((n + 1) / 2 - 1) ((n + 1) / 2 - 1) r (by omega) (by omega)]
theorem Trie.set_comm {α : Type} (a b : α) : ∀ (n k : Nat) (t : Trie α), n ≠ k → (t.set n a).set k b = (t.set k b).set n a := by
  intro n
  induction n using Nat.strongRecOn with
  | _ n ih =>
    intro k t hne
    have key : ∀ (v : Option α) (l r : Trie α), ((Trie.node v l r).set n a).set k b = ((Trie.node v l r).set k b).set n a := by
      intro v l r
      rw [Trie.set_node v l r n a, Trie.set_node v l r k b]
      by_cases hn0 : n = 0
      · subst hn0
        have hk0 : ¬ k = 0 := fun e => hne e.symm
        simp only [if_true, if_neg hk0, Trie.set_node]
        split <;> simp [Trie.set_node]
      · by_cases hk0 : k = 0
        · subst hk0
          simp only [if_true, if_neg hn0, Trie.set_node]
          split <;> simp [Trie.set_node]
        · simp only [if_neg hn0, if_neg hk0]
          by_cases hn : n % 2 = 1
          · by_cases hk : k % 2 = 1
            · simp only [if_pos hn, if_pos hk, Trie.set_node, if_neg hn0, if_neg hk0]
              rw [ih (n / 2) (by omega) (k / 2) l (by omega)]
            · simp only [if_pos hn, if_neg hk, Trie.set_node, if_neg hn0, if_neg hk0]
          · by_cases hk : k % 2 = 1
            · simp only [if_neg hn, if_pos hk, Trie.set_node, if_neg hn0, if_neg hk0]
            · simp only [if_neg hn, if_neg hk, Trie.set_node, if_neg hn0, if_neg hk0]
              rw [ih (n / 2 - 1) (by omega) (k / 2 - 1) r (by omega)]
    cases t with
    | nil => rw [Trie.set_nil, Trie.set_nil, key]
    | node v l r => exact key v l r
theorem Rows.upd_comm (f : Rows) {s i s' i' : Nat} (r r' : Row) (h : s ≠ s') : (f.upd s i r).upd s' i' r' = (f.upd s' i' r').upd s i r := by
  unfold Rows.upd
  rw [Trie.get_set_ne _ _ _ _ (Ne.symm h), Trie.get_set_ne _ _ _ _ h, Trie.set_comm _ _ _ _ _ h]
theorem outSet_comm : ∀ (l : List Rows) {d s i d' s' i' : Nat} (r r' : Row), ¬ (d = d' ∧ s = s') → outSet (outSet l d s i r) d' s' i' r' = outSet (outSet l d' s' i' r') d s i r
  | [], _, _, _, _, _, _, _, _, _ => rfl
  | x :: xs, d, s, i, d', s', i', r, r', h => by
    simp only [outSet]
    by_cases h1 : d = xs.length
    · by_cases h2 : d' = xs.length
      · have hs : s ≠ s' := fun e => h ⟨h1.trans h2.symm, e⟩
        simp only [if_pos h1, if_pos h2, outSet]
        rw [Rows.upd_comm _ _ _ hs]
      · simp only [if_pos h1, if_neg h2, outSet, outSet_length]
    · by_cases h2 : d' = xs.length
      · simp only [if_neg h1, if_pos h2, outSet, outSet_length]
      · simp only [if_neg h1, if_neg h2, outSet, outSet_length]
        rw [outSet_comm xs r r' h]
theorem Mem.set_comm (m : Mem) {d s i d' s' i' : Nat} (r r' : Row) (h : ¬ (d = d' ∧ s = s')) : (m.set d s i r).set d' s' i' r' = (m.set d' s' i' r').set d s i r := by
  unfold Mem.set
  by_cases h1 : d = m.out.length
  · by_cases h2 : d' = m.out.length
    · have hs : s ≠ s' := fun e => h ⟨h1.trans h2.symm, e⟩
      simp only [if_pos h1, if_pos h2]
      rw [Rows.upd_comm _ _ _ hs]
    · simp only [if_pos h1, if_neg h2, outSet_length]
  · by_cases h2 : d' = m.out.length
    · simp only [if_neg h1, if_pos h2, outSet_length]
    · simp only [if_neg h1, if_neg h2, outSet_length]
      rw [outSet_comm _ _ _ h]
structure Wr where
  d : Nat
  s : Nat
  i : Nat
  row : Row
def app (m : Mem) : List Wr → Mem
  | [] => m
  | x :: xs => app (m.set x.d x.s x.i x.row) xs
theorem app_append (m : Mem) : ∀ (l l' : List Wr), app m (l ++ l') = app (app m l) l'
  | [], _ => rfl
  | x :: l, l' => by simp only [List.cons_append, app]; exact app_append _ l l'
theorem app_set (x : Wr) : ∀ (l : List Wr) (m : Mem), (∀ y ∈ l, ¬ (y.d = x.d ∧ y.s = x.s)) → app (m.set x.d x.s x.i x.row) l = (app m l).set x.d x.s x.i x.row
  | [], m, _ => rfl
  | y :: l, m, h => by
    simp only [app]
    rw [Mem.set_comm _ _ _ (fun e => h y (by simp) ⟨e.1.symm, e.2.symm⟩), app_set x l _ (fun z hz => h z (by simp [hz]))]
theorem app_comm : ∀ (l l' : List Wr) (m : Mem), (∀ x ∈ l, ∀ y ∈ l', ¬ (y.d = x.d ∧ y.s = x.s)) → app (app m l) l' = app (app m l') l
  | [], l', m, _ => rfl
  | x :: l, l', m, h => by
    simp only [app]
    rw [app_comm l l' _ (fun z hz => h z (by simp [hz])), app_set x l' m (h x (by simp))]
@[simp] theorem app_len : ∀ (l : List Wr) (m : Mem), (app m l).out.length = m.out.length
  | [], _ => rfl
  | x :: l, m => by rw [app, app_len l]; simp
def look (m : Mem) (d s i : Nat) : Option Row := (m.rows d).map fun f => f.get s i
theorem look_own (m : Mem) (s i : Nat) : look m m.out.length s i = some (m.own.get s i) := by simp [look, Mem.rows_own]
theorem row_look (m : Mem) (r : Ref) : m.row r = (look m r.d r.s r.i).bind fun row => if row.g = r.g then some row else none := by
  unfold Mem.row look
  cases m.rows r.d <;> rfl
theorem look_set (m : Mem) (d s i : Nat) (row : Row) (d' s' i' : Nat) : look (m.set d s i row) d' s' i' = if d' = d ∧ s' = s ∧ i' = i then (look m d s i).map (fun _ => row) else look m d' s' i' := by
  unfold look
  rw [Mem.rows_set]
  by_cases hd : d' = d
  · subst hd
    rw [if_pos rfl]
    cases m.rows d' with
    | none => simp
    | some f =>
      simp only [Option.map_some, true_and]
      by_cases h : s' = s ∧ i' = i
      · rw [if_pos h, h.1, h.2, Rows.get_upd_same]
      · rw [if_neg h, Rows.get_upd_ne _ _ _ _ _ _ h]
  · rw [if_neg hd, if_neg (fun h => hd h.1)]
def unfz (r : Row) : Row := { r with fz := false }
def SlotEq (m m2 : Mem) (x : Nat × Nat) : Prop := ∀ i, look m x.1 x.2 i = look m2 x.1 x.2 i
def ReadEq (m m2 : Mem) (x : Nat × Nat) : Prop := ∀ i, (look m x.1 x.2 i).map unfz = (look m2 x.1 x.2 i).map unfz
theorem SlotEq.read {m m2 : Mem} {x : Nat × Nat} (h : SlotEq m m2 x) : ReadEq m m2 x := fun i => by rw [h i]
structure Agree (W Z R : List (Nat × Nat)) (m m2 : Mem) : Prop where
  len : m.out.length = m2.out.length
  w : ∀ x ∈ W, SlotEq m m2 x
  z : ∀ x ∈ Z, SlotEq m m2 x
  r : ∀ x ∈ R, ReadEq m m2 x
def Two (W Z : List (Nat × Nat)) (m m2 m' m2' : Mem) : Prop :=
  ∃ L : List Wr, (∀ x ∈ L, (x.d, x.s) ∈ W ∨ (x.d, x.s) ∈ Z) ∧ m' = app m L ∧ m2' = app m2 L ∧ ∀ x ∈ Z, x ∉ W → ReadEq m m' x
theorem Two.refl {W Z : List (Nat × Nat)} (m m2 : Mem) : Two W Z m m2 m m2 := ⟨[], by simp, rfl, rfl, fun _ _ _ _ => rfl⟩
theorem Two.trans {W Z : List (Nat × Nat)} {m m2 m' m2' m'' m2'' : Mem} (h : Two W Z m m2 m' m2') (k : Two W Z m' m2' m'' m2'') : Two W Z m m2 m'' m2'' := by
  obtain ⟨L, a1, rfl, rfl, a4⟩ := h
  obtain ⟨L', b1, rfl, rfl, b4⟩ := k
  refine ⟨L ++ L', fun x hx => ?_, (app_append _ _ _).symm, (app_append _ _ _).symm, fun x hx hn i => (a4 x hx hn i).trans (b4 x hx hn i)⟩
  rcases List.mem_append.1 hx with h | h
  · exact a1 x h
  · exact b1 x h
theorem look_app_out : ∀ (L : List Wr) (m : Mem) (d s i : Nat), (∀ x ∈ L, ¬ (x.d = d ∧ x.s = s)) → look (app m L) d s i = look m d s i
  | [], _, _, _, _, _ => rfl
  | x :: L, m, d, s, i, h => by
    rw [app, look_app_out L _ d s i (fun y hy => h y (by simp [hy])), look_set, if_neg]
    exact fun e => h x (by simp) ⟨e.1.symm, e.2.1.symm⟩
theorem look_app_eq : ∀ (L : List Wr) (m m2 : Mem) (d s i : Nat), look m d s i = look m2 d s i → (∀ d s, (look m d s 0).isSome = (look m2 d s 0).isSome) → look (app m L) d s i = look (app m2 L) d s i
  | [], _, _, _, _, _, h, _ => h
  | x :: L, m, m2, d, s, i, h, hs => by
    have some_iff : ∀ (m : Mem) (d s i j : Nat), (look m d s i).isSome = (look m d s j).isSome := fun m d s i j => by unfold look; cases m.rows d <;> rfl
    have step : ∀ d s i, look m d s i = look m2 d s i ∨ True := fun _ _ _ => .inr trivial
    rw [app, app]
    refine look_app_eq L _ _ d s i ?_ (fun d' s' => ?_)
    · rw [look_set, look_set]
      split
      · have h1 := hs x.d x.s
        rw [some_iff m x.d x.s 0 x.i, some_iff m2 x.d x.s 0 x.i] at h1
        cases e1 : look m x.d x.s x.i <;> cases e2 : look m2 x.d x.s x.i <;> simp [e1, e2] at h1 ⊢
      · exact h
    · rw [look_set, look_set]
      split
      · have h1 := hs x.d x.s
        rw [some_iff m x.d x.s 0 x.i, some_iff m2 x.d x.s 0 x.i] at h1
        cases e1 : look m x.d x.s x.i <;> cases e2 : look m2 x.d x.s x.i <;> simp [e1, e2] at h1 ⊢
      · exact hs d' s'
theorem look_some (m m2 : Mem) (h : m.out.length = m2.out.length) (d s i : Nat) : (look m d s i).isSome = (look m2 d s i).isSome := by
  have key : ∀ m : Mem, (look m d s i).isSome = decide (d ≤ m.out.length) := by
    intro m
    unfold look
    cases hr : m.rows d with
    | none =>
      simp only [Option.map_none, Option.isSome_none]
      symm
      rw [decide_eq_false_iff_not]
      intro hle
      unfold Mem.rows at hr
      split at hr
      · simp at hr
      · obtain ⟨r, h'⟩ := outRows_some m.out d (by omega)
        rw [h'] at hr; simp at hr
    | some f =>
      simp only [Option.map_some, Option.isSome_some]
      symm
      rw [decide_eq_true_eq]
      unfold Mem.rows at hr
      split at hr
      · omega
      · have := outRows_lt m.out d (by rw [hr]; rfl)
        omega
  rw [key, key, h]
theorem Two.agree {W Z R : List (Nat × Nat)} {m m2 m' m2' : Mem} (h : Agree W Z R m m2) (k : Two W Z m m2 m' m2') (hr : ∀ x ∈ R, x ∉ W) : Agree W Z R m' m2' := by
  obtain ⟨L, a1, rfl, rfl, a4⟩ := k
  have hsome : ∀ d s, (look m d s 0).isSome = (look m2 d s 0).isSome := fun d s => look_some m m2 h.len d s 0
  have hslot : ∀ x, SlotEq m m2 x → SlotEq (app m L) (app m2 L) x := fun x hx i => look_app_eq L m m2 _ _ _ (hx i) hsome
  refine ⟨by simp [h.len], fun x hx => hslot x (h.w x hx), fun x hx => hslot x (h.z x hx), fun x hx => ?_⟩
  by_cases hz : x ∈ Z
  · exact (hslot x (h.z x hz)).read
  · intro i
    have hno : ∀ y ∈ L, ¬ (y.d = x.1 ∧ y.s = x.2) := by
      intro y hy e
      have e' : (y.d, y.s) = x := by rw [e.1, e.2]
      rcases a1 y hy with h1 | h1
      · exact hr x hx (e' ▸ h1)
      · exact hz (e' ▸ h1)
    rw [look_app_out L m _ _ _ hno, look_app_out L m2 _ _ _ hno]
    exact h.r x hx i
theorem Agree.row {W Z R : List (Nat × Nat)} {m m2 : Mem} (h : Agree W Z R m m2) {r : Ref} (hr : (r.d, r.s) ∈ W ∨ (r.d, r.s) ∈ Z) : m2.row r = m.row r := by
  rw [row_look, row_look]
  rcases hr with hr | hr
  · have := h.w _ hr r.i
    simp only at this
    rw [this]
  · have := h.z _ hr r.i
    simp only at this
    rw [this]
theorem Agree.rowR {W Z R : List (Nat × Nat)} {m m2 : Mem} (h : Agree W Z R m m2) {r : Ref} (hr : (r.d, r.s) ∈ R) : (m2.row r).map unfz = (m.row r).map unfz := by
  rw [row_look, row_look]
  have := h.r _ hr r.i
  simp only at this
  cases e1 : look m r.d r.s r.i with
  | none =>
    rw [e1] at this
    cases e2 : look m2 r.d r.s r.i with
    | none => rfl
    | some b => rw [e2] at this; simp at this
  | some a =>
    rw [e1] at this
    cases e2 : look m2 r.d r.s r.i with
    | none => rw [e2] at this; simp at this
    | some b =>
      rw [e2] at this
      simp only [Option.map_some, Option.some.injEq] at this
      have hg : b.g = a.g := by have := congrArg Row.g this; exact this.symm
      simp only [Option.bind_some, hg]
      split
      · simp [this]
      · rfl
end Go.Ev
namespace Go.Ev
theorem Two.set {W Z : List (Nat × Nat)} {m m2 : Mem} {d s i : Nat} {row : Row} (h : (d, s) ∈ W) : Two W Z m m2 (m.set d s i row) (m2.set d s i row) := by
  refine ⟨[⟨d, s, i, row⟩], by simp [h], rfl, rfl, fun x hx hn j => ?_⟩
  rw [look_set, if_neg]
  intro e
  have : x = (d, s) := Prod.ext e.1 e.2.1
  exact hn (this ▸ h)
theorem Two.fz {W Z : List (Nat × Nat)} {m m2 : Mem} {r : Ref} {row : Row} (h : (r.d, r.s) ∈ W ∨ (r.d, r.s) ∈ Z) (hr : m.row r = some row) : Two W Z m m2 (m.set r.d r.s r.i { row with fz := true }) (m2.set r.d r.s r.i { row with fz := true }) := by
  refine ⟨[⟨r.d, r.s, r.i, { row with fz := true }⟩], by simpa using h, rfl, rfl, fun x hx hn j => ?_⟩
  rw [look_set]
  split
  · rename_i e
    rw [row_look] at hr
    cases hl : look m r.d r.s r.i with
    | none => rw [hl] at hr; simp at hr
    | some a =>
      rw [hl] at hr
      simp only [Option.bind_some] at hr
      split at hr
      · simp only [Option.some.injEq] at hr
        subst hr
        rw [e.1, e.2.1, e.2.2, hl]
        rfl
      · simp at hr
  · rfl
section
variable {W Z R : List (Nat × Nat)} {m m2 : Mem}
theorem Agree.own {s i : Nat} (h : Agree W Z R m m2) (hw : (m.out.length, s) ∈ W) : m2.own.get s i = m.own.get s i := by
  have := h.w _ hw i
  simp only at this
  rw [look_own, h.len, look_own] at this
  exact (Option.some.inj this).symm
theorem new_two {s i : Nat} {ty : TypeId} {arr : Bool} {es : List V} (h : Agree W Z R m m2) (hw : (m.out.length, s) ∈ W) : Two W Z m m2 (m.new s i ty arr es) (m2.new s i ty arr es) ∧ m2.newRef s i = m.newRef s i := by
  rw [Mem.new_eq, Mem.new_eq, h.own hw, ← h.len]
  refine ⟨Two.set hw, ?_⟩
  simp only [Mem.newRef, h.own hw, h.len]
theorem frz1_two {v : V} (h : Agree W Z R m m2) (hz : ∀ x ∈ rows1 v, x ∈ Z) : Two W Z m m2 (frz1 m v) (frz1 m2 v) := by
  cases v with
  | rs r ty off len =>
    have hz' : (r.d, r.s) ∈ Z := hz _ (by simp [rows1])
    simp only [frz1, h.row (.inr hz')]
    split
    · rename_i row hr
      split
      · exact Two.fz (.inr hz') hr
      · exact Two.refl _ _
    · exact Two.refl _ _
  | _ => exact Two.refl _ _
theorem frzL_two : ∀ (vs : List V) (m m2 : Mem), Agree W Z [] m m2 → (∀ v ∈ vs, ∀ x ∈ rows1 v, x ∈ Z) → Two W Z m m2 (frzL m vs) (frzL m2 vs)
  | [], m, m2, _, _ => Two.refl _ _
  | v :: vs, m, m2, h, hz => by
    have t1 := frz1_two h (hz v (by simp))
    exact t1.trans (frzL_two vs _ _ (t1.agree h (by simp)) (fun u hu => hz u (by simp [hu])))
theorem frz_two {v : V} (h : Agree W Z [] m m2) (hz : ∀ x ∈ rowsOf v, x ∈ Z) : Two W Z m m2 (frz m v) (frz m2 v) := by
  by_cases hag : ∃ cs, v = .agg cs
  · obtain ⟨cs, rfl⟩ := hag
    simp only [frz]
    split
    · rename_i hany
      simp only [rowsOf, hany, if_true] at hz
      exact frzL_two cs m m2 h (fun u hu x hx => hz x (List.mem_flatMap.2 ⟨u, hu, hx⟩))
    · exact Two.refl _ _
  · have e1 : ∀ m, frz m v = frz1 m v := fun m => by cases v <;> first | rfl | exact absurd ⟨_, rfl⟩ hag
    have e2 : rowsOf v = rows1 v := by cases v <;> first | rfl | exact absurd ⟨_, rfl⟩ hag
    rw [e1, e1]
    exact frz1_two h (by rw [← e2]; exact hz)
theorem frzs_two : ∀ (vs : List V) (m m2 : Mem), Agree W Z [] m m2 → (∀ v ∈ vs, ∀ x ∈ rowsOf v, x ∈ Z) → Two W Z m m2 (frzs m vs) (frzs m2 vs)
  | [], m, m2, _, _ => Two.refl _ _
  | v :: vs, m, m2, h, hz => by
    have t1 := frz_two h (hz v (by simp))
    exact t1.trans (frzs_two vs _ _ (t1.agree h (by simp)) (fun u hu => hz u (by simp [hu])))
theorem snap1_two {v : V} (h : Agree W Z R m m2) (hz : ∀ x ∈ rows1 v, x ∈ Z) : snap1 m2 v = snap1 m v := by
  cases v with
  | rs r ty off len =>
    have hz' : (r.d, r.s) ∈ Z := hz _ (by simp [rows1])
    simp only [snap1, h.row (r := r) (.inr hz')]
  | _ => rfl
theorem snapL_two (h : Agree W Z R m m2) : ∀ (vs : List V), (∀ v ∈ vs, ∀ x ∈ rows1 v, x ∈ Z) → snapL m2 vs = snapL m vs
  | [], _ => rfl
  | v :: vs, hz => by simp only [snapL, snap1_two h (hz v (by simp)), snapL_two h vs (fun u hu => hz u (by simp [hu]))]
theorem snap_two {v : V} (h : Agree W Z R m m2) (hz : ∀ x ∈ rowsOf v, x ∈ Z) : snap m2 v = snap m v := by
  by_cases hag : ∃ cs, v = .agg cs
  · obtain ⟨cs, rfl⟩ := hag
    simp only [snap]
    split
    · rename_i hany
      simp only [rowsOf, hany, if_true] at hz
      rw [snapL_two h cs (fun u hu x hx => hz x (List.mem_flatMap.2 ⟨u, hu, hx⟩))]
    · rfl
  · have e1 : ∀ m, snap m v = snap1 m v := fun m => by cases v <;> first | rfl | exact absurd ⟨_, rfl⟩ hag
    have e2 : rowsOf v = rows1 v := by cases v <;> first | rfl | exact absurd ⟨_, rfl⟩ hag
    rw [e1, e1]
    exact snap1_two h (by rw [← e2]; exact hz)
theorem snaps_two (h : Agree W Z R m m2) : ∀ (vs : List V), (∀ v ∈ vs, ∀ x ∈ rowsOf v, x ∈ Z) → snaps m2 vs = snaps m vs
  | [], _ => rfl
  | v :: vs, hz => by simp only [snaps, snap_two h (hz v (by simp)), snaps_two h vs (fun u hu => hz u (by simp [hu]))]
theorem fillNil_two {s : Nat} : ∀ (cs : List V) (i : Nat) (m m2 : Mem), Agree W Z [] m m2 → (m.out.length, s) ∈ W → Two W Z m m2 (fillNil m s i cs).1 (fillNil m2 s i cs).1 ∧ (fillNil m2 s i cs).2 = (fillNil m s i cs).2
  | [], _, m, m2, _, _ => ⟨Two.refl _ _, rfl⟩
  | c :: cs, i, m, m2, h, hw => by
    by_cases hn : c = .nilS
    · subst hn
      obtain ⟨t1, e1⟩ := new_two (i := i) (ty := 0) (arr := true) (es := []) h hw
      obtain ⟨t2, e2⟩ := fillNil_two cs (i + 1) _ _ (t1.agree h (by simp)) (by simpa using hw)
      exact ⟨t1.trans t2, by simp only [fillNil, e1, e2]⟩
    · have e : ∀ m, fillNil m s i (c :: cs) = ((fillNil m s (i + 1) cs).1, c :: (fillNil m s (i + 1) cs).2) := fun m => by
        cases c <;> first | rfl | exact absurd rfl hn
      rw [e, e]
      obtain ⟨t2, e2⟩ := fillNil_two cs (i + 1) m m2 h hw
      exact ⟨t2, by simp only [e2]⟩
theorem filled_two {s : Nat} {v : V} (h : Agree W Z [] m m2) (hw : (m.out.length, s) ∈ W) : Two W Z m m2 (filled m s v).1 (filled m2 s v).1 ∧ (filled m2 s v).2 = (filled m s v).2 := by
  cases v with
  | agg cs =>
    simp only [filled]
    split
    · obtain ⟨t1, e1⟩ := fillNil_two (W := W) (Z := Z) cs 1 m m2 h hw
      exact ⟨t1, by rw [e1]⟩
    · exact ⟨Two.refl _ _, rfl⟩
  | nilS =>
    obtain ⟨t1, e1⟩ := new_two (i := 1) (ty := 0) (arr := true) (es := []) h hw
    exact ⟨t1, by simp only [filled, e1]⟩
  | _ => exact ⟨Two.refl _ _, rfl⟩
theorem filled_len {s : Nat} {v : V} : (filled m s v).1.out.length = m.out.length := by
  have key : ∀ (cs : List V) (i : Nat) (m : Mem), (fillNil m s i cs).1.out.length = m.out.length := by
    intro cs
    induction cs with
    | nil => intro i m; rfl
    | cons c cs ih =>
      intro i m
      by_cases hn : c = .nilS
      · subst hn; simp only [fillNil]; rw [ih]; rfl
      · have e : fillNil m s i (c :: cs) = ((fillNil m s (i + 1) cs).1, c :: (fillNil m s (i + 1) cs).2) := by
          cases c <;> first | rfl | exact absurd rfl hn
        rw [e]; exact ih _ _
  cases v with
  | agg cs => simp only [filled]; split; exact key _ _ _; rfl
  | _ => rfl
theorem inst1_two {dst i : Nat} {v : V} (h : Agree W Z [] m m2) (hw : (m.out.length, dst) ∈ W) : Two W Z m m2 (inst1 m dst i v).1 (inst1 m2 dst i v).1 ∧ (inst1 m2 dst i v).2 = (inst1 m dst i v).2 := by
  cases v with
  | own es ty =>
    obtain ⟨t1, e1⟩ := new_two (i := i) (ty := ty) (arr := true) (es := es) h hw
    exact ⟨t1, by simp only [inst1, e1]⟩
  | _ => exact ⟨Two.refl _ _, rfl⟩
theorem inst1_len {dst i : Nat} {v : V} : (inst1 m dst i v).1.out.length = m.out.length := by cases v <;> rfl
theorem instL_two {dst : Nat} : ∀ (vs : List V) (i : Nat) (m m2 : Mem), Agree W Z [] m m2 → (m.out.length, dst) ∈ W → Two W Z m m2 (instL m dst i vs).1 (instL m2 dst i vs).1 ∧ (instL m2 dst i vs).2 = (instL m dst i vs).2
  | [], _, m, m2, _, _ => ⟨Two.refl _ _, rfl⟩
  | v :: vs, i, m, m2, h, hw => by
    obtain ⟨t1, e1⟩ := inst1_two (i := i) (v := v) h hw
    obtain ⟨t2, e2⟩ := instL_two vs (i + 1) _ _ (t1.agree h (by simp)) (by rw [inst1_len]; exact hw)
    exact ⟨t1.trans t2, by simp only [instL, e1, e2]⟩
theorem instL_len {dst : Nat} : ∀ (vs : List V) (i : Nat) (m : Mem), (instL m dst i vs).1.out.length = m.out.length
  | [], _, _ => rfl
  | v :: vs, i, m => by simp only [instL]; rw [instL_len vs, inst1_len]
theorem inst2_two {dst i : Nat} {v : V} (h : Agree W Z [] m m2) (hw : (m.out.length, dst) ∈ W) : Two W Z m m2 (inst2 m dst i v).1 (inst2 m2 dst i v).1 ∧ (inst2 m2 dst i v).2 = (inst2 m dst i v).2 := by
  by_cases hag : ∃ cs, v = .agg cs
  · obtain ⟨cs, rfl⟩ := hag
    simp only [inst2]
    split
    · obtain ⟨t1, e1⟩ := instL_two (W := W) (Z := Z) cs i m m2 h hw
      exact ⟨t1, by rw [e1]⟩
    · exact ⟨Two.refl _ _, rfl⟩
  · have e : ∀ m, inst2 m dst i v = inst1 m dst i v := fun m => by cases v <;> first | rfl | exact absurd ⟨_, rfl⟩ hag
    rw [e, e]; exact inst1_two h hw
theorem inst2_len {dst i : Nat} {v : V} : (inst2 m dst i v).1.out.length = m.out.length := by
  by_cases hag : ∃ cs, v = .agg cs
  · obtain ⟨cs, rfl⟩ := hag
    simp only [inst2]
    split
    · exact instL_len _ _ _
    · rfl
  · have e : inst2 m dst i v = inst1 m dst i v := by cases v <;> first | rfl | exact absurd ⟨_, rfl⟩ hag
    rw [e]; exact inst1_len
theorem inst2s_two {dst : Nat} : ∀ (vs : List V) (i : Nat) (m m2 : Mem), Agree W Z [] m m2 → (m.out.length, dst) ∈ W → Two W Z m m2 (inst2s m dst i vs).1 (inst2s m2 dst i vs).1 ∧ (inst2s m2 dst i vs).2 = (inst2s m dst i vs).2
  | [], _, m, m2, _, _ => ⟨Two.refl _ _, rfl⟩
  | v :: vs, i, m, m2, h, hw => by
    obtain ⟨t1, e1⟩ := inst2_two (i := i) (v := v) h hw
    obtain ⟨t2, e2⟩ := inst2s_two vs (i + 1000) _ _ (t1.agree h (by simp)) (by rw [inst2_len]; exact hw)
    exact ⟨t1.trans t2, by simp only [inst2s, e1, e2]⟩
theorem install_two {dst : Nat} {v : V} (h : Agree W Z [] m m2) (hw : (m.out.length, dst) ∈ W) : Two W Z m m2 (install m dst v).1 (install m2 dst v).1 ∧ (install m2 dst v).2 = (install m dst v).2 := by
  by_cases ht : ∃ vs, v = .tup vs
  · obtain ⟨vs, rfl⟩ := ht
    obtain ⟨t1, e1⟩ := inst2s_two (W := W) (Z := Z) vs 1000 m m2 h hw
    exact ⟨t1, by simp only [install, e1]⟩
  · have e : ∀ m, install m dst v = inst2 m dst 1000 v := fun m => by cases v <;> first | rfl | exact absurd ⟨_, rfl⟩ ht
    rw [e, e]; exact inst2_two h hw
theorem Agree.noR (h : Agree W Z R m m2) : Agree W Z [] m m2 := ⟨h.len, h.w, h.z, by simp⟩
theorem Agree.mono {W' Z' R' : List (Nat × Nat)} (h : Agree W Z R m m2) (hw : ∀ x ∈ W', x ∈ W) (hz : ∀ x ∈ Z', x ∈ Z) (hr : ∀ x ∈ R', x ∈ R) : Agree W' Z' R' m m2 :=
  ⟨h.len, fun x hx => h.w x (hw x hx), fun x hx => h.z x (hz x hx), fun x hx => h.r x (hr x hx)⟩
theorem frz1_len {v : V} : (frz1 m v).out.length = m.out.length := by
  cases v with
  | rs r ty off len => simp only [frz1]; split <;> (try split) <;> simp
  | _ => rfl
theorem frzL_len : ∀ (vs : List V) (m : Mem), (frzL m vs).out.length = m.out.length
  | [], _ => rfl
  | v :: vs, m => by rw [frzL, frzL_len vs, frz1_len]
theorem frz_len {v : V} : (frz m v).out.length = m.out.length := by
  by_cases hag : ∃ cs, v = .agg cs
  · obtain ⟨cs, rfl⟩ := hag
    simp only [frz]; split
    · exact frzL_len _ _
    · rfl
  · have e1 : frz m v = frz1 m v := by cases v <;> first | rfl | exact absurd ⟨_, rfl⟩ hag
    rw [e1]; exact frz1_len
theorem frzs_len : ∀ (vs : List V) (m : Mem), (frzs m vs).out.length = m.out.length
  | [], _ => rfl
  | v :: vs, m => by rw [frzs, frzs_len vs, frz_len]
theorem snap_refs {v v' : V} (h : snap m v = some v') (hp : ptrs v = false) : v'.refs = false := by
  have one : ∀ (u u' : V), snap1 m u = some u' → ptr1 u = false → u'.loose = false := by
    intro u u' hs hp
    cases u with
    | rs r ty off len =>
      simp only [snap1] at hs
      split at hs
      · split at hs
        · simp only [Option.some.injEq] at hs; subst hs; rfl
        · simp at hs
      · simp at hs
    | nilS => simp only [snap1, Option.some.injEq] at hs; subst hs; rfl
    | ptr => simp [ptr1] at hp
    | fn f a b => simp only [snap1, Option.some.injEq] at hs; subst hs; exact hp
    | _ => simp only [snap1, Option.some.injEq] at hs; subst hs; rfl
  by_cases hag : ∃ cs, v = .agg cs
  · obtain ⟨cs, rfl⟩ := hag
    simp only [snap] at h
    split at h
    · rename_i hany
      simp only [ptrs, hany, if_true] at hp
      cases hl : snapL m cs with
      | none => simp [hl] at h
      | some cs' =>
        simp only [hl, Option.map_some, Option.some.injEq] at h; subst h
        have key : ∀ (cs cs' : List V), snapL m cs = some cs' → cs.any ptr1 = false → cs'.any V.loose = false := by
          intro cs
          induction cs with
          | nil => intro cs' h _; simp only [snapL, Option.some.injEq] at h; subst h; rfl
          | cons c cs ih =>
            intro cs' h hp
            simp only [snapL] at h
            split at h
            · rename_i x xs hx hxs
              simp only [Option.some.injEq] at h; subst h
              simp only [List.any_cons, Bool.or_eq_false_iff] at hp ⊢
              exact ⟨one _ _ hx hp.1, ih _ hxs hp.2⟩
            · simp at h
        exact key _ _ hl hp
    · rename_i hany
      simp only [Option.some.injEq] at h; subst h
      simpa [V.refs] using hany
  · have e1 : snap m v = snap1 m v := by cases v <;> first | rfl | exact absurd ⟨_, rfl⟩ hag
    have e2 : ptrs v = ptr1 v := by cases v <;> first | rfl | exact absurd ⟨_, rfl⟩ hag
    rw [e1] at h
    rw [e2] at hp
    have := one v v' h hp
    have hnt : ∀ vs, v' ≠ .tup vs := by
      intro vs hv
      subst hv
      cases v with
      | tup vs' => simp [ptr1] at hp
      | rs r ty off len =>
        simp only [snap1] at h
        split at h
        · split at h <;> simp at h
        · simp at h
      | agg => exact hag ⟨_, rfl⟩
      | _ => simp [snap1] at h
    have hna : ∀ cs, v' ≠ .agg cs := by
      intro cs hv
      subst hv
      cases v with
      | rs r ty off len =>
        simp only [snap1] at h
        split at h
        · split at h <;> simp at h
        · simp at h
      | agg => exact hag ⟨_, rfl⟩
      | _ => simp [snap1] at h
    cases v' <;> first | exact this | exact absurd rfl (hnt _) | exact absurd rfl (hna _)
theorem snaps_refs : ∀ (vs vs' : List V), snaps m vs = some vs' → vs.any ptrs = false → vs'.any V.refs = false
  | [], vs', h, _ => by simp only [snaps, Option.some.injEq] at h; subst h; rfl
  | v :: vs, vs', h, hp => by
    simp only [snaps] at h
    split at h
    · rename_i x xs hx hxs
      simp only [Option.some.injEq] at h; subst h
      simp only [List.any_cons, Bool.or_eq_false_iff] at hp ⊢
      exact ⟨snap_refs hx hp.1, snaps_refs vs xs hxs hp.2⟩
    · simp at h
end
end Go.Ev
namespace Go.Ev
section
variable {X : Env} {m m2 : Mem} {t : Tm} {o : Oper}
def OpR.setMem (m : Mem) : OpR → OpR
  | .val v _ => .val v m
  | .skip _ => .skip m
  | .call f args _ => .call f args m
  | .defer f a => .defer f a
  | .panic v => .panic v
def idleOp (X : Env) (t : Tm) (o : Oper) : Prop := ∀ m m2, evOp X m2 t o = (evOp X m t o).map (OpR.setMem m2)
theorem idle_two {call : CallF} {v : V} {m' : Mem} (h : idleOp X t o) (hc : ∀ m f args m', evOp X m t o ≠ some (.call f args m')) (e : memStep X call o t m = some (v, m')) {W Z : List (Nat × Nat)} :
    ∃ m2', memStep X call o t m2 = some (v, m2') ∧ Two W Z m m2 m' m2' := by
  have h1 := h m m2
  have h0 := h m m
  unfold memStep at e
  cases he : evOp X m t o with
  | none => simp [he] at e
  | some r =>
    rw [he] at h0 h1 e
    simp only [Option.map_some] at h0 h1
    cases r with
    | val u m1 =>
      simp only [Option.some.injEq, Prod.mk.injEq] at e
      obtain ⟨rfl, rfl⟩ := e
      simp only [OpR.setMem, Option.some.injEq, OpR.val.injEq, true_and] at h0
      subst h0
      exact ⟨m2, by simp only [memStep, h1, OpR.setMem], Two.refl _ _⟩
    | skip m1 =>
      simp only [Option.some.injEq, Prod.mk.injEq] at e
      obtain ⟨rfl, rfl⟩ := e
      simp only [OpR.setMem, Option.some.injEq, OpR.skip.injEq] at h0
      subst h0
      exact ⟨m2, by simp only [memStep, h1, OpR.setMem], Two.refl _ _⟩
    | call f args m1 => exact absurd he (hc _ _ _ _)
    | defer f cap => simp at e
    | panic v => simp at e
theorem idle_val {o : Oper} (f : Option V) (hf : ∀ m, evOp X m t o = f.map fun v => OpR.val v m) : idleOp X t o ∧ ∀ m f args m', evOp X m t o ≠ some (.call f args m') := by
  refine ⟨fun m m2 => ?_, fun m g args m' hc => ?_⟩
  · rw [hf, hf]
    cases f <;> rfl
  · rw [hf] at hc
    cases f <;> simp at hc
def Computes (X : Env) (t : Tm) (o : Oper) : Prop := ∃ f : Option V, ∀ m, evOp X m t o = f.map fun v => .val v m
theorem computes_two {call : CallF} {v : V} {m' : Mem} (h : Computes X t o) (e : memStep X call o t m = some (v, m')) {W Z : List (Nat × Nat)} : ∃ m2', memStep X call o t m2 = some (v, m2') ∧ Two W Z m m2 m' m2' := by
  obtain ⟨f, hf⟩ := h
  obtain ⟨h1, h2⟩ := idle_val f hf
  exact idle_two h1 h2 e
def valOf : OpR → Option V
  | .val v _ => some v
  | _ => none
theorem c_of (h : ∀ m, evOp X m t o = ((evOp X ⟨.nil, []⟩ t o).bind valOf).map fun v => OpR.val v m) : Computes X t o := ⟨_, h⟩
theorem bindVal (f : Option V) (m m0 : Mem) : (f.map fun v => OpR.val v m) = (((f.map fun v => OpR.val v m0)).bind valOf).map fun v => OpR.val v m := by cases f <;> rfl
theorem c_move {x : Operand} (hop : o.op = .move x) : Computes X t o := c_of fun m => by simp only [evOp, hop]; rfl
theorem c_pick {c a b : Operand} (hop : o.op = .pick c a b) : Computes X t o := c_of fun m => by simp only [evOp, hop]; split <;> rfl
theorem c_nilCheck {x : Operand} (hop : o.op = .nilCheck x) : Computes X t o := c_of fun m => by simp only [evOp, hop]; split <;> rfl
theorem c_binOp {op : BinOp} {ty ty' : TypeId} {x y : Operand} (hop : o.op = .binOp op ty x y ty') : Computes X t o := c_of fun m => by simp only [evOp, hop]; exact bindVal _ _ _
theorem c_unOp {op : UnOp} {ty : TypeId} {x : Operand} (hop : o.op = .unOp op ty x) : Computes X t o := c_of fun m => by simp only [evOp, hop]; exact bindVal _ _ _
theorem c_convert {s d : TypeId} {x : Operand} (hop : o.op = .convert s d x) : Computes X t o := c_of fun m => by simp only [evOp, hop]; split <;> rfl
theorem c_makeInterface {ty : TypeId} {x : Operand} (hop : o.op = .makeInterface ty x) : Computes X t o := c_of fun m => by simp only [evOp, hop]; split <;> rfl
theorem c_slice {ty : TypeId} {x : Operand} {lo hi mx : Option Operand} (hop : o.op = .slice ty x lo hi mx) : Computes X t o := c_of fun m => by
  cases mx with
  | some y => simp only [evOp, hop]; rfl
  | none =>
    simp only [evOp, hop]
    split
    all_goals first
      | rfl
      | (split <;> first | rfl | (split <;> rfl))
theorem c_fieldAddr {ty : TypeId} {x : Operand} {f : Nat} (hop : o.op = .fieldAddr ty x f) : Computes X t o := c_of fun m => by
  simp only [evOp, hop]
  split
  · split
    · split
      · rfl
      · split <;> rfl
    · rfl
  · rfl
theorem c_field {ty : TypeId} {x : Operand} {f : Nat} (hop : o.op = .field ty x f) : Computes X t o := c_of fun m => by
  simp only [evOp, hop]
  split
  · split
    · exact bindVal _ _ _
    · rfl
  · rfl
theorem c_indexAddr {ty : TypeId} {x i : Operand} (hop : o.op = .indexAddr ty x i) : Computes X t o := c_of fun m => by
  simp only [evOp, hop]
  split
  · split
    · split <;> rfl
    · split
      · split
        · split <;> rfl
        · rfl
      · rfl
    · rfl
  · split
    · split <;> rfl
    · rfl
  · rfl
theorem c_index {ty : TypeId} {x i : Operand} (hop : o.op = .index ty x i) : Computes X t o := c_of fun m => by
  simp only [evOp, hop]
  split
  · split
    · split <;> rfl
    · rfl
  · split
    · exact bindVal _ _ _
    · rfl
  · rfl
theorem c_extract {x : Operand} {i : Nat} (hop : o.op = .extract x i) : Computes X t o := c_of fun m => by
  simp only [evOp, hop]
  split
  · exact bindVal _ _ _
  · rfl
theorem c_typeAssert {x : Operand} {xt ty : TypeId} {ok : Bool} (hop : o.op = .typeAssert x xt ty ok) : Computes X t o := c_of fun m => by
  simp only [evOp, hop]
  split
  · split
    · rfl
    · split <;> rfl
  · rfl
theorem c_builtin {c : Call} {b : Builtin} (hop : o.op = .call c) (hb : c.callee = .builtin b) (hna : b ≠ .append) : Computes X t o := c_of fun m => by
  simp only [evOp, hop, hb]
  unfold Ev.builtin
  split
  · split <;> rfl
  · exact absurd rfl hna
  · rfl
  · rfl
  · rfl
  · rfl
end
end Go.Ev
namespace Go.Ev
section
variable {X : Env} {t : Tm} {o : Oper} {W Z R : List (Nat × Nat)} {m m2 : Mem}
theorem var_two {dst : Nat} {v : V} {ty : TypeId} (h : Agree W Z [] m m2) (hw : (m.out.length, dst) ∈ W) :
    Two W Z m m2 ((filled m dst v).1.new dst 0 ty false [(filled m dst v).2]) ((filled m2 dst v).1.new dst 0 ty false [(filled m2 dst v).2]) ∧ (filled m2 dst v).1.newRef dst 0 = (filled m dst v).1.newRef dst 0 := by
  obtain ⟨t1, e1⟩ := filled_two (v := v) h hw
  obtain ⟨t2, e2⟩ := new_two (i := 0) (ty := ty) (arr := false) (es := [(filled m dst v).2]) (t1.agree h (by simp)) (by rw [filled_len]; exact hw)
  exact ⟨by rw [e1]; exact t1.trans t2, e2⟩
theorem nilIn_two {d : Nat} {v : V} (h : Agree W Z R m m2) (hz : ∀ p ∈ rows1 v, p ∈ Z) : nilIn m2 d v = nilIn m d v := by
  cases v with
  | rs r ty off len =>
    have := h.row (r := r) (.inr (hz _ (by simp [rows1])))
    simp only [nilIn, this]
  | _ => rfl
theorem unNil1_two {r : Ref} {off : Nat} {v : V} (h : Agree W Z R m m2) (hw : (r.d, r.s) ∈ W) (hz : ∀ p ∈ rows1 v, p ∈ Z) : Two W Z m m2 (unNil1 m r off v).1 (unNil1 m2 r off v).1 ∧ (unNil1 m2 r off v).2 = (unNil1 m r off v).2 := by
  unfold unNil1
  rw [nilIn_two h hz]
  split
  · have := h.w _ hw (500 + off)
    simp only [look] at this
    cases h1 : m.rows r.d with
    | none =>
      rw [h1] at this
      cases h2 : m2.rows r.d with
      | none => exact ⟨Two.refl _ _, rfl⟩
      | some f => rw [h2] at this; simp at this
    | some f =>
      rw [h1] at this
      cases h2 : m2.rows r.d with
      | none => rw [h2] at this; simp at this
      | some f2 =>
        rw [h2] at this
        simp only [Option.map_some, Option.some.injEq] at this
        simp only [← this]
        exact ⟨Two.set hw, trivial⟩
  · exact ⟨Two.refl _ _, rfl⟩
theorem unNilL_two {r : Ref} (hw : (r.d, r.s) ∈ W) : ∀ {cs : List V} {off : Nat} {m m2 : Mem}, Agree W Z [] m m2 → (∀ c ∈ cs, ∀ p ∈ rows1 c, p ∈ Z) →
    Two W Z m m2 (unNilL m r off cs).1 (unNilL m2 r off cs).1 ∧ (unNilL m2 r off cs).2 = (unNilL m r off cs).2
  | [], _, _, _, _, _ => ⟨Two.refl _ _, rfl⟩
  | c :: cs, off, m, m2, h, hz => by
    obtain ⟨t1, e1⟩ := unNil1_two (off := off) (v := c) h hw (hz c List.mem_cons_self)
    obtain ⟨t2, e2⟩ := unNilL_two (off := off + 1) hw (t1.agree h (by simp)) (fun x hx => hz x (List.mem_cons_of_mem _ hx))
    exact ⟨t1.trans t2, by simp only [unNilL, e1, e2]⟩
theorem unNil_two {r : Ref} {off : Nat} {v : V} (h : Agree W Z [] m m2) (hw : (r.d, r.s) ∈ W) (hz : ∀ p ∈ rowsOf v, p ∈ Z) : Two W Z m m2 (unNil m r off v).1 (unNil m2 r off v).1 ∧ (unNil m2 r off v).2 = (unNil m r off v).2 := by
  cases v with
  | agg cs =>
    have hz' : ∀ c ∈ cs, ∀ p ∈ rows1 c, p ∈ Z := by
      intro c hc p hp
      by_cases hl : cs.any V.loose = true
      · refine hz p ?_
        simp only [rowsOf, hl, if_true]
        exact List.mem_flatMap.2 ⟨c, hc, hp⟩
      · exfalso
        rw [List.any_eq_true] at hl
        refine hl ⟨c, hc, ?_⟩
        cases c <;> simp [rows1] at hp <;> rfl
    have hany : cs.any (nilIn m2 r.d) = cs.any (nilIn m r.d) := by
      rw [Bool.eq_iff_iff, List.any_eq_true, List.any_eq_true]
      constructor
      · rintro ⟨c, hc, e⟩; exact ⟨c, hc, by rw [← nilIn_two h (hz' c hc)]; exact e⟩
      · rintro ⟨c, hc, e⟩; exact ⟨c, hc, by rw [nilIn_two h (hz' c hc)]; exact e⟩
    obtain ⟨t1, e1⟩ := unNilL_two (cs := cs) (off := off) hw h hz'
    simp only [unNil, hany]
    split
    · exact ⟨t1, by rw [e1]⟩
    · exact ⟨Two.refl _ _, rfl⟩
  | _ => exact unNil1_two h hw hz
theorem unfz_eq {a b : Row} (h : unfz b = unfz a) : b.ty = a.ty ∧ b.arr = a.arr ∧ b.es = a.es := by
  cases a; cases b
  simp only [unfz, Row.mk.injEq] at h
  exact ⟨h.2.1, h.2.2.1, h.2.2.2.2⟩
theorem elemsOf_two {x : V} (h : Agree W Z R m m2) (hr : ∀ y ∈ rowsOf x, y ∈ R) : elemsOf m2 x = elemsOf m x := by
  cases x with
  | rs r ty off len =>
    have hr' : (r.d, r.s) ∈ R := hr _ (by simp [rowsOf, rows1])
    have := h.rowR (r := r) hr'
    simp only [elemsOf]
    cases h1 : m.row r with
    | none =>
      rw [h1] at this
      cases h2 : m2.row r with
      | none => rfl
      | some b => rw [h2] at this; simp at this
    | some a =>
      rw [h1] at this
      cases h2 : m2.row r with
      | none => rw [h2] at this; simp at this
      | some b =>
        rw [h2] at this
        simp only [Option.map_some, Option.some.injEq] at this
        obtain ⟨_, e1, e2⟩ := unfz_eq this
        simp only [e1, e2]
  | _ => rfl
theorem appendTo_two {dst : Nat} {ty : TypeId} {s : V} {xs : List V} {p : V × Mem} (h : Agree W Z R m m2) (hw : (m.out.length, dst) ∈ W) (hs : ∀ y ∈ rowsOf s, y ∈ W) (e : appendTo X m dst ty s xs = some p) :
    ∃ m2', appendTo X m2 dst ty s xs = some (p.1, m2') ∧ Two W Z m m2 p.2 m2' := by
  unfold appendTo at e ⊢
  cases s with
  | rs r rty off len =>
    have hr' : (r.d, r.s) ∈ W := hs _ (by simp [rowsOf, rows1])
    simp only at e ⊢
    rw [h.row (r := r) (.inl hr')]
    split at e
    · rename_i row hrow
      split at e
      · rename_i hc
        simp only [Option.some.injEq] at e; subst e
        exact ⟨_, by rw [if_pos hc], Two.set hr'⟩
      · simp at e
    · simp at e
  | nilS =>
    simp only at e ⊢
    split at e
    · rename_i hc
      simp only [Option.some.injEq] at e; subst e
      obtain ⟨t1, e1⟩ := new_two (i := 0) (ty := ty) (arr := true) (es := xs) h hw
      exact ⟨_, by rw [if_pos hc, e1], t1⟩
    · simp at e
  | _ => simp at e
def ValTwo (X : Env) (W Z : List (Nat × Nat)) (m m2 : Mem) (t : Tm) (o : Oper) : Prop := ∀ r, evOp X m t o = some r →
  (∃ v m' m2', r = .val v m' ∧ evOp X m2 t o = some (.val v m2') ∧ Two W Z m m2 m' m2') ∨ (∃ m' m2', r = .skip m' ∧ evOp X m2 t o = some (.skip m2') ∧ Two W Z m m2 m' m2')
theorem ValTwo.step {call : CallF} {v : V} {m' : Mem} (h : ValTwo X W Z m m2 t o) (e : memStep X call o t m = some (v, m')) : ∃ m2', memStep X call o t m2 = some (v, m2') ∧ Two W Z m m2 m' m2' := by
  unfold memStep at e
  cases hr : evOp X m t o with
  | none => simp [hr] at e
  | some r =>
    rw [hr] at e
    rcases h r hr with ⟨u, m1, m2', rfl, h2, ht⟩ | ⟨m1, m2', rfl, h2, ht⟩
    · simp only [Option.some.injEq, Prod.mk.injEq] at e
      obtain ⟨rfl, rfl⟩ := e
      exact ⟨m2', by simp only [memStep, h2], ht⟩
    · simp only [Option.some.injEq, Prod.mk.injEq] at e
      obtain ⟨rfl, rfl⟩ := e
      exact ⟨m2', by simp only [memStep, h2], ht⟩
theorem two_alloc {ty : TypeId} (hop : o.op = .alloc ty) (ha : Agree W Z R m m2) (hw : (m.out.length, o.dst.getD 0) ∈ W) : ValTwo X W Z m m2 t o := by
  intro r e
  simp only [evOp, hop] at e ⊢
  cases hz : zeroOf X.P ty with
  | none => simp [hz] at e
  | some z =>
    simp only [hz, Option.some.injEq] at e ⊢
    subst e
    obtain ⟨t1, e1⟩ := var_two (v := z) (ty := ty) (dst := o.dst.getD 0) ha.noR hw
    exact .inl ⟨_, _, _, rfl, by rw [e1], t1⟩
theorem two_box {ty : TypeId} {x : Operand} (hop : o.op = .box ty x) (ha : Agree W Z R m m2) (hw : (m.out.length, o.dst.getD 0) ∈ W) : ValTwo X W Z m m2 t o := by
  intro r e
  simp only [evOp, hop] at e ⊢
  split at e
  · rename_i hc
    simp only [Option.some.injEq] at e
    subst e
    rw [if_pos hc]
    obtain ⟨t1, e1⟩ := var_two (v := opd X t x) (ty := ty) (dst := o.dst.getD 0) ha.noR hw
    exact .inl ⟨_, _, _, rfl, by rw [e1], t1⟩
  · simp at e
theorem two_assign {x : Operand} (hop : o.op = .assign x) (ha : Agree W Z R m m2) (hw : (opd X t x).refs = true → (m.out.length, o.dst.getD 0) ∈ W) : ValTwo X W Z m m2 t o := by
  intro r e
  simp only [evOp, hop, Option.some.injEq] at e ⊢
  subst e
  by_cases hr : (opd X t x).refs = true
  · obtain ⟨t1, e1⟩ := filled_two (v := opd X t x) (s := o.dst.getD 0) ha.noR (hw hr)
    exact .inl ⟨_, _, _, rfl, by rw [e1], t1⟩
  · have key : ∀ m s, filled m s (opd X t x) = (m, opd X t x) := by
      intro m s
      cases hv : opd X t x with
      | agg cs =>
        rw [hv] at hr
        simp only [filled]
        rw [if_neg]
        intro hn
        apply hr
        simp only [V.refs]
        obtain ⟨u, hu, hun⟩ := List.any_eq_true.1 hn
        exact List.any_eq_true.2 ⟨u, hu, by cases u <;> first | rfl | (simp [V.isNilS] at hun)⟩
      | nilS => rw [hv] at hr; simp [V.refs, V.loose] at hr
      | _ => rfl
    rw [key, key]
    exact .inl ⟨_, _, _, rfl, rfl, Two.refl _ _⟩
theorem two_build {ty : TypeId} {ps : Array (Nat × Operand)} (hop : o.op = .build ty ps) (ha : Agree W Z R m m2) (hw : (m.out.length, o.dst.getD 0) ∈ W) : ValTwo X W Z m m2 t o := by
  intro r e
  simp only [evOp, hop] at e ⊢
  split at e
  · rename_i z hz
    split at e
    · rename_i cs hcs
      split at e
      · rename_i hp
        simp only [Option.some.injEq] at e
        subst e
        simp only [hcs, if_pos hp]
        obtain ⟨t1, e1⟩ := filled_two (v := .agg cs) (s := o.dst.getD 0) ha.noR hw
        exact .inl ⟨_, _, _, rfl, by rw [e1], t1⟩
      · simp at e
    · simp at e
  · simp at e
theorem zero_two {P : Program} {ty : TypeId} {z : V} (hz : zeroOf P ty = some z) (m m2 : Mem) : snap m2 z = snap m z := by
  unfold zeroOf at hz
  split at hz
  · rename_i x hx
    split at hz
    · simp only [Option.some.injEq] at hz
      subst hz
      have cell1 : ∀ (m m2 : Mem) (x : Value), snap1 m2 (ofCell x) = snap1 m (ofCell x) := by
        intro m m2 x
        cases x with
        | pointer a => cases a <;> rfl
        | slice a l c => simp only [ofCell]; split <;> rfl
        | func fn a b => cases fn with
          | func f => simp only [ofCell]; split <;> rfl
          | _ => rfl
        | _ => rfl
      have cellL : ∀ (l : List Value), snapL m2 (l.map ofCell) = snapL m (l.map ofCell) := by
        intro l
        induction l with
        | nil => rfl
        | cons c l ih => simp only [List.map_cons, snapL, cell1 m m2, ih]
      unfold ofValue
      split
      · split
        · simp only [snap]; split
          · rw [cellL]
          · rfl
        · rfl
      · rename_i hna
        have : ∀ m, snap m (ofCell x) = snap1 m (ofCell x) := by
          intro m
          cases x with
          | pointer a => cases a <;> rfl
          | slice a l c => simp only [ofCell]; split <;> rfl
          | func fn a b => cases fn with
            | func f => simp only [ofCell]; split <;> rfl
            | _ => rfl
          | _ => rfl
        rw [this, this, cell1 m m2]
    · simp at hz
  · simp at hz
theorem two_makeSlice {ty : TypeId} {l c : Operand} (hop : o.op = .makeSlice ty l c) (ha : Agree W Z R m m2) (hw : (m.out.length, o.dst.getD 0) ∈ W) : ValTwo X W Z m m2 t o := by
  intro r e
  simp only [evOp, hop] at e ⊢
  split at e
  · rename_i el n k hel hn hk
    split at e
    · rename_i z hz
      have hs : snap m2 z = snap m z := zero_two hz m m2
      rw [hs]
      split at e
      · rename_i z' hz'
        split at e
        · rename_i hc
          simp only [Option.some.injEq] at e
          subst e
          rw [if_pos hc]
          obtain ⟨t1, e1⟩ := new_two (i := 0) (ty := el) (arr := true) (es := List.replicate n.toNat z') ha hw
          exact .inl ⟨_, _, _, rfl, by rw [e1], t1⟩
        · simp at e
      · simp at e
    · simp at e
  · simp at e
end
end Go.Ev
namespace Go.Ev
section
variable {X : Env} {t : Tm} {o : Oper} {W Z R : List (Nat × Nat)} {m m2 : Mem}
theorem two_load {ty : TypeId} {a : Operand} (hop : o.op = .load ty a) (ha : Agree W Z R m m2) (hr : ∀ x ∈ rowsOf (opd X t a), x ∈ R) : ValTwo X W Z m m2 t o := by
  intro r e
  simp only [evOp, hop] at e ⊢
  cases hv : opd X t a with
  | ptr r j off =>
    rw [hv] at hr e
    simp only at e ⊢
    have hrow := ha.rowR (r := r) (hr _ (by simp [rowsOf, rows1]))
    cases h1 : m.row r with
    | none => simp [h1] at e
    | some a1 =>
      rw [h1] at hrow e
      cases h2 : m2.row r with
      | none => rw [h2] at hrow; simp at hrow
      | some b =>
        rw [h2] at hrow
        simp only [Option.map_some, Option.some.injEq] at hrow
        obtain ⟨e1, _, e2⟩ := unfz_eq hrow
        simp only at e ⊢
        rw [e1, e2]
        cases hel : a1.es[j]? with
        | none => simp [hel] at e
        | some el =>
          simp only [hel] at e ⊢
          obtain ⟨u, hu, rfl⟩ := Option.map_eq_some_iff.1 e
          rw [hu]
          exact .inl ⟨_, _, _, rfl, rfl, Two.refl _ _⟩
  | cptr el ety off =>
    rw [hv] at e
    simp only at e ⊢
    obtain ⟨u, hu, rfl⟩ := Option.map_eq_some_iff.1 e
    rw [hu]
    exact .inl ⟨_, _, _, rfl, rfl, Two.refl _ _⟩
  | _ => rw [hv] at e; simp at e
theorem two_buildSlice {ty : TypeId} {n : Nat} {ps : Array (Nat × Operand)} (hop : o.op = .buildSlice ty n ps) (ha : Agree W Z R m m2) (hw : (m.out.length, o.dst.getD 0) ∈ W)
    (hz : ∀ v ∈ ps.toList.map (fun p => opd X t p.2), ∀ x ∈ rowsOf v, x ∈ Z) : ValTwo X W Z m m2 t o := by
  intro r e
  simp only [evOp, hop] at e ⊢
  split at e
  · rename_i el hel
    rw [snaps_two ha _ hz]
    split at e
    · rename_i z vs hzz hvs
      rw [zero_two hzz m m2]
      split at e
      · rename_i z' hz'
        split at e
        · rename_i hc
          rw [if_pos hc]
          split at e
          · rename_i es hes
            simp only [Option.some.injEq] at e; subst e
            try rw [hes]
            have t0 := frzs_two (W := W) (Z := Z) _ m m2 ha.noR hz
            obtain ⟨t1, e1⟩ := new_two (i := 0) (ty := el) (arr := true) (es := es) (s := o.dst.getD 0) (t0.agree ha.noR (by simp)) (by rw [frzs_len]; exact hw)
            exact .inl ⟨_, _, _, rfl, by rw [e1], t0.trans t1⟩
          · simp at e
        · simp at e
      · simp at e
    · simp at e
  · simp at e
theorem two_makeFunc {fn : Fn} {first cap : Array Operand} (hop : o.op = .makeFunc fn first cap) (ha : Agree W Z R m m2) (hz : ∀ v ∈ mapOpd X t first.toList, ∀ x ∈ rowsOf v, x ∈ Z) : ValTwo X W Z m m2 t o := by
  intro r e
  cases fn with
  | func f =>
    simp only [evOp, hop] at e ⊢
    rw [snaps_two ha _ hz]
    split at e
    · rename_i fs hfs
      split at e
      · rename_i hc
        simp only [Option.some.injEq] at e; subst e
        rw [if_pos hc]
        exact .inl ⟨_, _, _, rfl, rfl, frzs_two (W := W) (Z := Z) _ m m2 ha.noR hz⟩
      · simp at e
    · simp at e
  | _ => simp [evOp, hop] at e
theorem two_store {ty : TypeId} {x y : Operand} (hop : o.op = .store ty x y) (ha : Agree W Z R m m2) (hw : ∀ p ∈ rowsOf (opd X t x), p ∈ W) (hz : ∀ p ∈ rowsOf (opd X t y), p ∈ Z) : ValTwo X W Z m m2 t o := by
  intro rr e
  simp only [evOp, hop] at e ⊢
  split at e
  · rename_i r j off hv
    rw [hv] at hw
    have hr : (r.d, r.s) ∈ W := hw _ (by simp [rowsOf, rows1])
    rw [ha.row (r := r) (.inl hr)]
    split at e
    · rename_i row hrow
      split at e
      · rename_i harr
        rw [if_pos harr, snap_two ha hz]
        split at e
        · rename_i v hsv
          have t0 := frz_two (W := W) (Z := Z) (v := opd X t y) ha.noR hz
          have a0 := t0.agree ha.noR (by simp)
          rw [a0.row (r := r) (.inl hr)]
          split at e
          · rename_i row1 hrow1
            split at e
            · rename_i hc
              rw [if_pos hc]
              split at e
              · rename_i row' hse
                simp only [Option.some.injEq] at e; subst e
                try rw [hse]
                exact .inr ⟨_, _, rfl, rfl, t0.trans (Two.set hr)⟩
              · simp at e
            · simp at e
          · simp at e
        · simp at e
      · rename_i harr
        rw [if_neg harr]
        obtain ⟨t0, e0⟩ := unNil_two (off := off) (v := opd X t y) ha.noR hr hz
        have a0 := t0.agree ha.noR (by simp)
        rw [e0, a0.row (r := r) (.inl hr)]
        split at e
        · rename_i row1 hrow1
          split at e
          · rename_i hc
            rw [if_pos hc]
            split at e
            · rename_i row' hse
              simp only [Option.some.injEq] at e; subst e
              try rw [hse]
              exact .inr ⟨_, _, rfl, rfl, t0.trans (Two.set hr)⟩
            · simp at e
          · simp at e
        · simp at e
    · simp at e
  · simp at e
theorem two_append {c : Call} {s x : V} (hop : o.op = .call c) (hb : c.callee = .builtin .append) (hargs : mapOpd X t c.args.toList = [s, x]) (ha : Agree W Z R m m2) (hw : (m.out.length, o.dst.getD 0) ∈ W)
    (hs : ∀ p ∈ rowsOf s, p ∈ W) (hr : ∀ p ∈ rowsOf x, p ∈ R) : ValTwo X W Z m m2 t o := by
  intro r e
  simp only [evOp, hop, hb, hargs, Ev.builtin] at e ⊢
  split at e
  · rename_i ty d hty hd
    have fin : ∀ xs, (appendTo X m (o.dst.getD 0) ty s xs).map (fun p => OpR.val p.1 p.2) = some r →
        (∃ v m' m2', r = .val v m' ∧ (appendTo X m2 (o.dst.getD 0) ty s xs).map (fun p => OpR.val p.1 p.2) = some (.val v m2') ∧ Two W Z m m2 m' m2') := by
      intro xs e
      obtain ⟨p, hp, rfl⟩ := Option.map_eq_some_iff.1 e
      obtain ⟨m2', h1, h2⟩ := appendTo_two ha hw hs hp
      exact ⟨_, _, m2', rfl, by rw [h1]; rfl, h2⟩
    split at e
    · split at e
      · split at e
        · rename_i h1
          simp only [if_pos h1]
          exact .inl (fin _ e)
        · simp at e
      · simp at e
    · rename_i hns
      rw [elemsOf_two ha hr]
      split at e
      · rename_i xs el hxs
        try rw [hxs]
        exact .inl (fin _ e)
      · simp at e
  · simp at e
theorem two_call {c : Call} {f : Operand} {call : CallF} {v : V} {m' : Mem} (hop : o.op = .call c) (hb : c.callee = .value f) (ha : Agree W Z R m m2) (hw : (m.out.length, o.dst.getD 0) ∈ W)
    (hz : ∀ u ∈ mapOpd X t c.args.toList, ∀ x ∈ rowsOf u, x ∈ Z) (hp : (mapOpd X t c.args.toList).any ptrs = false) (hpf : ptrs (opd X t f) = false)
    (hff : (match calleeOf (opd X t f) with | some (_, first, _) => first.any V.refs | none => false) = false) (e : memStep X call o t m = some (v, m')) :
    ∃ m2', memStep X call o t m2 = some (v, m2') ∧ Two W Z m m2 m' m2' := by
  unfold memStep at e ⊢
  simp only [evOp, hop, hb] at e ⊢
  cases hcal : calleeOf (opd X t f) with
  | none => simp [hcal] at e
  | some q =>
    obtain ⟨g, first, cap⟩ := q
    rw [hcal] at hff
    simp only [hcal] at e hff ⊢
    have hcap : cap = [] := by
      unfold calleeOf at hcal
      split at hcal
      · rename_i h
        simp only [Option.some.injEq, Prod.mk.injEq] at hcal
        obtain ⟨rfl, rfl, rfl⟩ := hcal
        rw [h] at hpf
        simpa [ptrs, ptr1] using hpf
      · simp at hcal
    rw [snaps_two ha _ hz]
    cases has : snaps m (mapOpd X t c.args.toList) with
    | none => simp [has] at e
    | some az =>
      simp only [has] at e ⊢
      by_cases hok : callOk X.P g = true
      rotate_left
      · simp [hok] at e
      simp only [hok, if_true] at e ⊢
      have hrefs : (first ++ az ++ cap).any V.refs = false := by
        rw [hcap, List.append_nil, List.any_append, hff, snaps_refs _ _ has hp]
        rfl
      have t0 : Two W Z m m2 (if scalarRes X.P g = true ∧ (first ++ az ++ cap).any V.refs = false then m else frzs m (mapOpd X t c.args.toList))
          (if scalarRes X.P g = true ∧ (first ++ az ++ cap).any V.refs = false then m2 else frzs m2 (mapOpd X t c.args.toList)) := by
        split
        · exact Two.refl _ _
        · exact frzs_two _ _ _ ha.noR hz
      have l0 : (if scalarRes X.P g = true ∧ (first ++ az ++ cap).any V.refs = false then m else frzs m (mapOpd X t c.args.toList)).out.length = m.out.length := by
        split
        · rfl
        · exact frzs_len _ _
      generalize (if scalarRes X.P g = true ∧ (first ++ az ++ cap).any V.refs = false then m else frzs m (mapOpd X t c.args.toList)) = m1 at e t0 l0
      generalize (if scalarRes X.P g = true ∧ (first ++ az ++ cap).any V.refs = false then m2 else frzs m2 (mapOpd X t c.args.toList)) = m3 at t0 ⊢
      have a0 := t0.agree ha.noR (by simp)
      have fin : ∀ u, install m1 (o.dst.getD 0) u = install m1 (o.dst.getD 0) u → Two W Z m m2 (install m1 (o.dst.getD 0) u).1 (install m3 (o.dst.getD 0) u).1 ∧ (install m3 (o.dst.getD 0) u).2 = (install m1 (o.dst.getD 0) u).2 := by
        intro u _
        obtain ⟨t1, e1⟩ := install_two (v := u) a0 (by rw [l0]; exact hw)
        exact ⟨t0.trans t1, e1⟩
      unfold doCall at e ⊢
      split at e
      · rename_i r r1 hdo
        split at hdo
        · rename_i u hu
          split at hdo
          · rename_i hc
            simp only [Option.some.injEq, Prod.mk.injEq, Res.ret.injEq] at hdo e
            obtain ⟨rfl, rfl⟩ := hdo
            obtain ⟨rfl, rfl⟩ := e
            obtain ⟨t1, e1⟩ := fin u rfl
            simp only [if_pos hc]
            exact ⟨_, by rw [e1], t1⟩
          · simp at hdo
        · rename_i hu
          simp only [hrefs, Bool.false_eq_true, if_false] at hdo ⊢
          split at hdo
          · rename_i u out hcl
            split at hdo
            · rename_i hc
              simp only [Option.some.injEq, Prod.mk.injEq, Res.ret.injEq] at hdo e
              obtain ⟨rfl, rfl⟩ := hdo
              obtain ⟨rfl, rfl⟩ := e
              obtain ⟨t1, e1⟩ := fin u rfl
              simp only [if_pos hc]
              exact ⟨_, by rw [e1], t1⟩
            · simp at hdo
          · split at hdo <;> simp at hdo
          · simp at hdo
      · simp at e
theorem memStep_two {call : CallF} {st : St} {v : V} {m' : Mem} (hall : (foot X st o).all = false) (ha : Agree (foot X st o).w (foot X st o).z (foot X st o).r st.m m2) (e : memStep X call o st.t st.m = some (v, m')) :
    ∃ m2', memStep X call o st.t m2 = some (v, m2') ∧ Two (foot X st o).w (foot X st o).z st.m m2 m' m2' := by
  cases hop : o.op with
  | move x => exact computes_two (c_move hop) e
  | pick c a b => exact computes_two (c_pick hop) e
  | nilCheck x => exact computes_two (c_nilCheck hop) e
  | binOp op ty x y b => exact computes_two (c_binOp hop) e
  | unOp op ty x => exact computes_two (c_unOp hop) e
  | convert s d x => exact computes_two (c_convert hop) e
  | makeInterface ty x => exact computes_two (c_makeInterface hop) e
  | slice ty x lo hi mx => exact computes_two (c_slice hop) e
  | fieldAddr ty x f => exact computes_two (c_fieldAddr hop) e
  | field ty x f => exact computes_two (c_field hop) e
  | indexAddr ty x i => exact computes_two (c_indexAddr hop) e
  | index ty x i => exact computes_two (c_index hop) e
  | extract x i => exact computes_two (c_extract hop) e
  | typeAssert x xt ty ok => exact computes_two (c_typeAssert hop) e
  | load ty a => exact (two_load hop ha (by simp only [foot, hop]; exact fun _ h => h)).step e
  | assign x =>
    refine (two_assign hop ha (fun hr => ?_)).step e
    simp only [foot, hop, hr, if_true, List.mem_singleton]
  | alloc ty => exact (two_alloc hop ha (by simp only [foot, hop, List.mem_singleton])).step e
  | box ty x => exact (two_box hop ha (by simp only [foot, hop, List.mem_singleton])).step e
  | build ty ps => exact (two_build hop ha (by simp only [foot, hop, List.mem_singleton])).step e
  | makeSlice ty l c => exact (two_makeSlice hop ha (by simp only [foot, hop, List.mem_singleton])).step e
  | buildSlice ty n ps =>
    refine (two_buildSlice hop ha (by simp only [foot, hop, List.mem_singleton]) (fun v hv x hx => ?_)).step e
    simp only [foot, hop]
    exact List.mem_flatMap.2 ⟨v, hv, hx⟩
  | makeFunc f first cap =>
    refine (two_makeFunc hop ha (fun v hv x hx => ?_)).step e
    simp only [foot, hop]
    exact List.mem_flatMap.2 ⟨v, hv, hx⟩
  | store ty x y =>
    exact (two_store hop ha (by simp only [foot, hop]; exact fun _ h => h) (by simp only [foot, hop]; exact fun _ h => h)).step e
  | call c =>
    cases hb : c.callee with
    | builtin b =>
      by_cases hba : b = .append
      · subst hba
        cases hargs : mapOpd X st.t c.args.toList with
        | nil => simp [foot, hop, hb, hargs, Foot.none] at hall
        | cons s l =>
          cases l with
          | nil => simp [foot, hop, hb, hargs, Foot.none] at hall
          | cons x l =>
            cases l with
            | cons y l => simp [foot, hop, hb, hargs, Foot.none] at hall
            | nil =>
              refine (two_append hop hb hargs ha ?_ ?_ ?_).step e
              · simp [foot, hop, hb, hargs]
              · intro p hp; simp [foot, hop, hb, hargs, hp]
              · intro p hp; simp [foot, hop, hb, hargs, hp]
      · exact computes_two (c_builtin hop hb hba) e
    | value f =>
      simp only [foot, hop, hb, Bool.or_eq_false_iff] at hall
      refine two_call hop hb ha ?_ ?_ hall.1.1 hall.1.2 hall.2 e
      · simp only [foot, hop, hb, List.mem_singleton]
      · intro u hu x hx
        simp only [foot, hop, hb]
        exact List.mem_flatMap.2 ⟨u, hu, hx⟩
    | invoke x n => simp [memStep, evOp, hop, hb] at e
  | defer c => simp [foot, hop, Foot.none] at hall
  | panic x => simp [foot, hop, Foot.none] at hall
  | _ => simp [memStep, evOp, hop] at e
end
end Go.Ev
namespace Go.Ev
section
variable {X : Env} {t t' : Tm} {o : Oper} {W Z R : List (Nat × Nat)} {m m2 : Mem}
theorem mapOpd_congr {l : List Operand} (h : ∀ x ∈ l, opd X t x = opd X t' x) : mapOpd X t l = mapOpd X t' l := List.map_congr_left h
theorem parts_congr {ps : List (Nat × Operand)} (h : ∀ x ∈ ps.map (·.2), opd X t x = opd X t' x) :
    (ps.map fun p => (p.1, opd X t p.2)) = (ps.map fun p => (p.1, opd X t' p.2)) ∧ (ps.map fun p => opd X t p.2) = (ps.map fun p => opd X t' p.2) :=
  ⟨List.map_congr_left fun p hp => by rw [h p.2 (List.mem_map.2 ⟨p, hp, rfl⟩)], List.map_congr_left fun p hp => h p.2 (List.mem_map.2 ⟨p, hp, rfl⟩)⟩
theorem evOp_congr (h : ∀ x ∈ o.op.operands.toList, opd X t x = opd X t' x) : evOp X m t o = evOp X m t' o := by
  cases hop : o.op with
  | call c =>
    rw [hop] at h
    have ha : mapOpd X t c.args.toList = mapOpd X t' c.args.toList := mapOpd_congr fun x hx => h x (by simp [Op.operands, Call.operands, Array.mem_toList_iff.1 hx])
    cases hb : c.callee with
    | builtin b => simp only [evOp, hop, hb, ha]
    | value f =>
      have hf : opd X t f = opd X t' f := h f (by simp [Op.operands, Call.operands, hb])
      simp only [evOp, hop, hb, ha, hf]
    | invoke x n => simp only [evOp, hop, hb]
  | defer c =>
    rw [hop] at h
    cases hb : c.callee with
    | value f =>
      have hf : opd X t f = opd X t' f := h f (by simp [Op.operands, Call.operands, hb])
      simp only [evOp, hop, hb, hf]
    | builtin b => simp only [evOp, hop, hb]
    | invoke x n => simp only [evOp, hop, hb]
  | build ty ps =>
    rw [hop] at h
    obtain ⟨h1, h2⟩ := parts_congr (ps := ps.toList) (X := X) (t := t) (t' := t') (fun x hx => h x (by simpa [Op.operands] using hx))
    simp only [evOp, hop, h1, h2]
  | buildSlice ty n ps =>
    rw [hop] at h
    obtain ⟨h1, h2⟩ := parts_congr (ps := ps.toList) (X := X) (t := t) (t' := t') (fun x hx => h x (by simpa [Op.operands] using hx))
    simp only [evOp, hop, h1, h2]
  | makeFunc fn first cap =>
    rw [hop] at h
    have h1 : mapOpd X t first.toList = mapOpd X t' first.toList := mapOpd_congr fun x hx => h x (by simp [Op.operands, Array.mem_toList_iff.1 hx])
    have h2 : mapOpd X t cap.toList = mapOpd X t' cap.toList := mapOpd_congr fun x hx => h x (by simp [Op.operands, Array.mem_toList_iff.1 hx])
    cases fn <;> simp only [evOp, hop, h1, h2]
  | slice ty x lo hi mx =>
    rw [hop] at h
    have h1 : opd X t x = opd X t' x := h x (by simp [Op.operands])
    have h2 : lo.map (opd X t) = lo.map (opd X t') := by cases lo with
      | none => rfl
      | some y => simp only [Option.map_some]; rw [h y (by simp [Op.operands])]
    have h3 : hi.map (opd X t) = hi.map (opd X t') := by cases hi with
      | none => rfl
      | some y => simp only [Option.map_some]; rw [h y (by simp [Op.operands])]
    cases mx <;> simp only [evOp, hop, h1, h2, h3]
  | move x => rw [hop] at h; simp only [evOp, hop, h x (by simp [Op.operands])]
  | assign x => rw [hop] at h; simp only [evOp, hop, h x (by simp [Op.operands])]
  | pick c x y => rw [hop] at h; simp only [evOp, hop, h c (by simp [Op.operands]), h x (by simp [Op.operands]), h y (by simp [Op.operands])]
  | alloc ty => simp only [evOp, hop]
  | box ty x => rw [hop] at h; simp only [evOp, hop, h x (by simp [Op.operands])]
  | load ty x => rw [hop] at h; simp only [evOp, hop, h x (by simp [Op.operands])]
  | store ty x y => rw [hop] at h; simp only [evOp, hop, h x (by simp [Op.operands]), h y (by simp [Op.operands])]
  | nilCheck x => rw [hop] at h; simp only [evOp, hop, h x (by simp [Op.operands])]
  | binOp op ty x y b => rw [hop] at h; simp only [evOp, hop, h x (by simp [Op.operands]), h y (by simp [Op.operands])]
  | unOp op ty x => rw [hop] at h; simp only [evOp, hop, h x (by simp [Op.operands])]
  | convert s d x => rw [hop] at h; simp only [evOp, hop, h x (by simp [Op.operands])]
  | makeInterface ty x => rw [hop] at h; simp only [evOp, hop, h x (by simp [Op.operands])]
  | makeSlice ty x y => rw [hop] at h; simp only [evOp, hop, h x (by simp [Op.operands]), h y (by simp [Op.operands])]
  | fieldAddr ty x f => rw [hop] at h; simp only [evOp, hop, h x (by simp [Op.operands])]
  | field ty x f => rw [hop] at h; simp only [evOp, hop, h x (by simp [Op.operands])]
  | indexAddr ty x y => rw [hop] at h; simp only [evOp, hop, h x (by simp [Op.operands]), h y (by simp [Op.operands])]
  | index ty x y => rw [hop] at h; simp only [evOp, hop, h x (by simp [Op.operands]), h y (by simp [Op.operands])]
  | typeAssert x xt ty ok => rw [hop] at h; simp only [evOp, hop, h x (by simp [Op.operands])]
  | extract x i => rw [hop] at h; simp only [evOp, hop, h x (by simp [Op.operands])]
  | panic x => rw [hop] at h; simp only [evOp, hop, h x (by simp [Op.operands])]
  | _ => simp only [evOp, hop]
theorem foot_congr {st st' : St} (h : ∀ x ∈ o.op.operands.toList, opd X st.t x = opd X st'.t x) (hl : st.m.out.length = st'.m.out.length) : foot X st o = foot X st' o := by
  cases hop : o.op with
  | call c =>
    rw [hop] at h
    have ha : mapOpd X st.t c.args.toList = mapOpd X st'.t c.args.toList := mapOpd_congr fun x hx => h x (by simp [Op.operands, Call.operands, Array.mem_toList_iff.1 hx])
    cases hb : c.callee with
    | builtin b => cases b <;> simp only [foot, hop, hb, ha, hl]
    | value f =>
      have hf : opd X st.t f = opd X st'.t f := h f (by simp [Op.operands, Call.operands, hb])
      simp only [foot, hop, hb, ha, hf, hl]
    | invoke x n => simp only [foot, hop, hb]
  | buildSlice ty n ps =>
    rw [hop] at h
    obtain ⟨h1, h2⟩ := parts_congr (ps := ps.toList) (X := X) (t := st.t) (t' := st'.t) (fun x hx => h x (by simpa [Op.operands] using hx))
    simp only [foot, hop, h2, hl]
  | makeFunc fn first cap =>
    rw [hop] at h
    have h1 : mapOpd X st.t first.toList = mapOpd X st'.t first.toList := mapOpd_congr fun x hx => h x (by simp [Op.operands, Array.mem_toList_iff.1 hx])
    simp only [foot, hop, h1]
  | assign x => rw [hop] at h; simp only [foot, hop, h x (by simp [Op.operands]), hl]
  | load ty x => rw [hop] at h; simp only [foot, hop, h x (by simp [Op.operands])]
  | store ty x y => rw [hop] at h; simp only [foot, hop, h x (by simp [Op.operands]), h y (by simp [Op.operands])]
  | _ => simp only [foot, hop, hl]
end
end Go.Ev
namespace Go.Ev
section
variable {X : Env} {t t' : Tm} {o : Oper} {W Z R : List (Nat × Nat)} {m m2 : Mem}
theorem Agree.refl (W Z R : List (Nat × Nat)) (m : Mem) : Agree W Z R m m := ⟨rfl, fun _ _ _ => rfl, fun _ _ _ => rfl, fun _ _ _ => rfl⟩
theorem install_len {dst : Nat} {v : V} : (install m dst v).1.out.length = m.out.length := by
  have key : ∀ (vs : List V) (i : Nat) (m : Mem), (inst2s m dst i vs).1.out.length = m.out.length := by
    intro vs
    induction vs with
    | nil => intro i m; rfl
    | cons v vs ih => intro i m; simp only [inst2s]; rw [ih, inst2_len]
  by_cases ht : ∃ vs, v = .tup vs
  · obtain ⟨vs, rfl⟩ := ht
    simp only [install]
    exact key _ _ _
  · have e : install m dst v = inst2 m dst 1000 v := by cases v <;> first | rfl | exact absurd ⟨_, rfl⟩ ht
    rw [e]; exact inst2_len
theorem doCall_len {call : CallF} {f : FuncId} {args : List V} {dst : Nat} {v : V} {m' : Mem} (e : doCall X call f args m dst = some (.ret v, m')) : m'.out.length = m.out.length := by
  unfold doCall at e
  split at e
  · split at e
    · simp only [Option.some.injEq, Prod.mk.injEq] at e
      rw [← e.2]; exact install_len
    · simp at e
  · split at e
    · split at e
      · split at e
        · rename_i hl
          simp only [Option.some.injEq, Prod.mk.injEq] at e
          rw [← e.2, install_len]; exact hl
        · simp at e
      · split at e <;> simp at e
      · simp at e
    · split at e
      · split at e
        · simp only [Option.some.injEq, Prod.mk.injEq] at e
          rw [← e.2]; exact install_len
        · simp at e
      · split at e <;> simp at e
      · simp at e
theorem memStep_len {call : CallF} {st : St} {v : V} {m' : Mem} (e : memStep X call o st.t st.m = some (v, m')) : m'.out.length = st.m.out.length := by
  cases hall : (foot X st o).all with
  | false =>
    obtain ⟨m2', _, L, _, rfl, _⟩ := memStep_two hall (Agree.refl _ _ _ _) e
    simp
  | true =>
    unfold memStep at e
    cases hop : o.op with
    | call c =>
      cases hb : c.callee with
      | builtin b =>
        by_cases hba : b = .append
        · subst hba
          simp only [evOp, hop, hb] at e
          cases hargs : mapOpd X st.t c.args.toList with
          | nil => simp [hargs, Ev.builtin] at e
          | cons s l =>
            cases l with
            | nil => simp [hargs, Ev.builtin] at e
            | cons x l =>
              cases l with
              | nil => simp [foot, hop, hb, hargs, Foot.none] at hall
              | cons y l => simp [hargs, Ev.builtin] at e
        · cases b <;> first | exact absurd rfl hba | (simp [foot, hop, hb, Foot.none] at hall)
      | value f =>
        simp only [evOp, hop, hb] at e
        cases hcal : calleeOf (opd X st.t f) with
        | none => simp [hcal] at e
        | some q =>
          obtain ⟨g, first, cap⟩ := q
          simp only [hcal] at e
          cases has : snaps st.m (mapOpd X st.t c.args.toList) with
          | none => simp [has] at e
          | some az =>
            simp only [has] at e
            by_cases hok : callOk X.P g = true
            rotate_left
            · simp [hok] at e
            simp only [hok, if_true] at e
            split at e
            · rename_i r r1 hdo
              simp only [Option.some.injEq, Prod.mk.injEq] at e
              obtain ⟨rfl, rfl⟩ := e
              rw [doCall_len hdo]
              split
              · rfl
              · exact frzs_len _ _
            · simp at e
      | invoke x n => simp [evOp, hop, hb] at e
    | defer c =>
      simp only [evOp, hop] at e
      split at e
      · rename_i h; split at h <;> (try split at h) <;> simp at h
      · rename_i h; split at h <;> (try split at h) <;> simp at h
      · rename_i h; split at h <;> (try split at h) <;> simp at h
      · simp at e
    | panic x =>
      simp only [evOp, hop] at e
      split at e
      · rename_i h; split at h <;> simp at h
      · rename_i h; split at h <;> simp at h
      · rename_i h; split at h <;> simp at h
      · simp at e
    | _ => simp [foot, hop, Foot.none] at hall
end
end Go.Ev
namespace Go.Ev
structure Acts (f : Foot) (L : Nat) (A : Mem → Option (V × Mem)) : Prop where
  two : ∀ m m2 v m', m.out.length = L → f.all = false → Agree f.w f.z f.r m m2 → A m = some (v, m') → ∃ m2', A m2 = some (v, m2') ∧ Two f.w f.z m m2 m' m2'
  len : ∀ m v m', m.out.length = L → A m = some (v, m') → m'.out.length = L
theorem meet_false {a b : List (Nat × Nat)} (h : meet a b = false) {x : Nat × Nat} (ha : x ∈ a) (hb : x ∈ b) : False := by
  unfold meet at h
  have := List.any_eq_false.1 h x ha
  simp only [List.contains_iff_mem] at this
  exact this hb
theorem idle_spec {f : Foot} (h : f.idle = true) : f.r = [] ∧ f.z = [] ∧ f.w = [] ∧ f.all = false := by
  simp only [Foot.idle, Bool.and_eq_true, List.isEmpty_iff, Bool.not_eq_true'] at h
  exact ⟨h.1.1.1, h.1.1.2, h.1.2, h.2⟩
theorem two_nil {m m2 m' m2' : Mem} (h : Two [] [] m m2 m' m2') : m' = m ∧ m2' = m2 := by
  obtain ⟨L, a1, rfl, rfl, _⟩ := h
  cases L with
  | nil => exact ⟨rfl, rfl⟩
  | cons x L => have := a1 x (by simp); simp at this
theorem acts_idle {f : Foot} {L : Nat} {A : Mem → Option (V × Mem)} (h : Acts f L A) (hi : f.idle = true) {m m2 m' : Mem} {v : V} (hm : m.out.length = L) (hm2 : m2.out.length = L) (e : A m = some (v, m')) : m' = m ∧ A m2 = some (v, m2) := by
  obtain ⟨h1, h2, h3, h4⟩ := idle_spec hi
  obtain ⟨m2', k1, k2⟩ := h.two m m2 v m' hm h4 (by rw [h1, h2, h3]; exact ⟨by omega, by simp, by simp, by simp⟩) e
  rw [h2, h3] at k2
  obtain ⟨rfl, rfl⟩ := two_nil k2
  exact ⟨rfl, k1⟩
theorem agree_after {W Z R W' Z' : List (Nat × Nat)} {m m2 m' m2' : Mem} (h : Two W' Z' m m2 m' m2') (h1 : ∀ x ∈ W, x ∉ W' ∧ x ∉ Z') (h2 : ∀ x ∈ Z, x ∉ W' ∧ x ∉ Z') (h3 : ∀ x ∈ R, x ∉ W') : Agree W Z R m' m := by
  obtain ⟨L, a1, rfl, _, a4⟩ := h
  have same : ∀ x : Nat × Nat, x ∉ W' → x ∉ Z' → SlotEq (app m L) m x := by
    intro x hw hz i
    refine look_app_out L m _ _ _ (fun y hy e => ?_)
    have e' : (y.d, y.s) = x := by rw [e.1, e.2]
    rcases a1 y hy with h1 | h1
    · exact hw (e' ▸ h1)
    · exact hz (e' ▸ h1)
  refine ⟨by simp, fun x hx => same x (h1 x hx).1 (h1 x hx).2, fun x hx => same x (h2 x hx).1 (h2 x hx).2, fun x hx => ?_⟩
  by_cases hz : x ∈ Z'
  · intro i; exact (a4 x hz (h3 x hx) i).symm
  · exact (same x (h3 x hx) hz).read
theorem Agree.symm {W Z R : List (Nat × Nat)} {m m2 : Mem} (h : Agree W Z R m m2) : Agree W Z R m2 m := ⟨h.len.symm, fun x hx i => (h.w x hx i).symm, fun x hx i => (h.z x hx i).symm, fun x hx i => (h.r x hx i).symm⟩
theorem acts_comm {f1 f2 : Foot} {L : Nat} {A1 A2 : Mem → Option (V × Mem)} (h1 : Acts f1 L A1) (h2 : Acts f2 L A2) (hok : f1.ok f2 = true) {m m1 m12 : Mem} {v1 v2 : V} (hm : m.out.length = L) (e1 : A1 m = some (v1, m1)) (e2 : A2 m1 = some (v2, m12)) :
    ∃ m2, A2 m = some (v2, m2) ∧ A1 m2 = some (v1, m12) := by
  have hl1 := h1.len _ _ _ hm e1
  have hl12 := h2.len _ _ _ hl1 e2
  unfold Foot.ok at hok
  by_cases hi1 : f1.idle = true
  · obtain ⟨rfl, k⟩ := acts_idle h1 hi1 hm hl12 e1
    exact ⟨m12, e2, k⟩
  by_cases hi2 : f2.idle = true
  · obtain ⟨rfl, k⟩ := acts_idle h2 hi2 hl1 hm e2
    exact ⟨m, k, e1⟩
  simp only [hi1, hi2, Bool.false_or, Bool.and_eq_true, Bool.not_eq_true'] at hok
  obtain ⟨⟨⟨⟨⟨⟨⟨q1, q2⟩, ww⟩, wz⟩, wr⟩, zw⟩, zz⟩, rw'⟩ := hok
  obtain ⟨_, _, T0⟩ := h1.two m m v1 m1 hm q1 (Agree.refl _ _ _ _) e1
  have ag2 : Agree f2.w f2.z f2.r m1 m := agree_after T0 (fun x hx => ⟨fun h => meet_false ww h hx, fun h => meet_false zw h hx⟩) (fun x hx => ⟨fun h => meet_false wz h hx, fun h => meet_false zz h hx⟩) (fun x hx h => meet_false wr h hx)
  obtain ⟨m2, k1, T2⟩ := h2.two m1 m v2 m12 hl1 q2 ag2 e2
  obtain ⟨_, _, T2'⟩ := h2.two m m v2 m2 hm q2 (Agree.refl _ _ _ _) k1
  have ag1 : Agree f1.w f1.z f1.r m2 m := agree_after T2' (fun x hx => ⟨fun h => meet_false ww hx h, fun h => meet_false wz hx h⟩) (fun x hx => ⟨fun h => meet_false zw hx h, fun h => meet_false zz hx h⟩) (fun x hx h => meet_false rw' hx h)
  obtain ⟨m21, k2, T1⟩ := h1.two m m2 v1 m1 hm q1 ag1.symm e1
  refine ⟨m2, k1, ?_⟩
  obtain ⟨L2, a1, a2, a3, _⟩ := T2
  obtain ⟨L1, b1, b2, b3, _⟩ := T1
  have hc := app_comm L1 L2 m (fun x hx y hy e => by
    have e' : (y.d, y.s) = (x.d, x.s) := by rw [e.1, e.2]
    rcases b1 x hx with h | h <;> rcases a1 y hy with h' | h'
    · exact meet_false ww h (e' ▸ h')
    · exact meet_false wz h (e' ▸ h')
    · exact meet_false zw h (e' ▸ h')
    · exact meet_false zz h (e' ▸ h'))
  have : m21 = m12 := by rw [b3, a3, a2, b2, hc]
  rw [← this]; exact k2
section
variable {X : Env} {call : CallF} {ops : Array Oper}
theorem indep_spec {a b : Oper} (h : indep ops a b = true) : (∀ d, a.dst = some d → d ∉ tmpsOf ops b ∧ b.dst ≠ some d) ∧ (∀ d, b.dst = some d → d ∉ tmpsOf ops a) := by
  unfold indep at h
  simp only [Bool.and_eq_true] at h
  refine ⟨fun d hd => ?_, fun d hd => ?_⟩
  · have h1 := h.1
    rw [hd] at h1
    simp only [Bool.and_eq_true, Bool.not_eq_true'] at h1
    exact ⟨fun hm => by have := h1.1; simp [hm] at this, fun hb => by have := h1.2; simp [hb] at this⟩
  · have h1 := h.2
    rw [hd] at h1
    simp only [Bool.not_eq_true'] at h1
    exact fun hm => by simp [hm] at h1
theorem opd_put {o : Oper} {t : Tm} {dst : Option Nat} {v : V} (h : ∀ d, dst = some d → d ∉ tmpsOf ops o) : ∀ x ∈ o.op.operands.toList, opd X (put t dst v) x = opd X t x := by
  intro x hx
  cases dst with
  | none => rfl
  | some d =>
    cases x with
    | tmp i =>
      have hne : i ≠ d := by
        intro e
        subst e
        exact h i rfl (List.mem_append_left _ (List.mem_filterMap.2 ⟨.tmp i, hx, rfl⟩))
      simp only [opd, put]
      exact Tm.get_set_ne _ _ _ _ hne
    | _ => rfl
theorem wanted_put {o : Oper} {t : Tm} {dst : Option Nat} {v : V} (h : ∀ d, dst = some d → d ∉ tmpsOf ops o) : wantedV ops (put t dst v) o = wantedV ops t o := by
  cases dst with
  | none => rfl
  | some d =>
    unfold wantedV
    cases hg : o.guard with
    | none => rfl
    | some g =>
      obtain ⟨j, want⟩ := g
      simp only
      cases hd : (ops[j]?).bind (·.dst) with
      | none => rfl
      | some e =>
        have hne : e ≠ d := by
          intro he
          subst he
          refine h e rfl (List.mem_append_right _ ?_)
          simp [hg, hd]
        simp only [put, Tm.get_set_ne _ _ _ _ hne]
theorem put_comm {t : Tm} {d1 d2 : Option Nat} {v u : V} (h : ∀ d, d1 = some d → d2 ≠ some d) : put (put t d1 v) d2 u = put (put t d2 u) d1 v := by
  cases d1 with
  | none => rfl
  | some a =>
    cases d2 with
    | none => rfl
    | some b =>
      have hne : a ≠ b := fun e => h a rfl (e ▸ rfl)
      exact Trie.set_comm _ _ _ _ _ hne
def act (X : Env) (call : CallF) (ops : Array Oper) (o : Oper) (t : Tm) (m : Mem) : Option (V × Mem) := if wantedV ops t o then memStep X call o t m else some (.undef, m)
theorem stepD_act (o : Oper) (st : St) : stepD X call ops o st = (act X call ops o st.t st.m).map fun p => { st with t := put st.t o.dst p.1, m := p.2 } := by
  unfold stepD act
  split
  · cases memStep X call o st.t st.m <;> rfl
  · rfl
theorem footD_congr {o : Oper} {st st' : St} (h : ∀ x ∈ o.op.operands.toList, opd X st.t x = opd X st'.t x) (hw : wantedV ops st.t o = wantedV ops st'.t o) (hl : st.m.out.length = st'.m.out.length) : footD X ops o st = footD X ops o st' := by
  unfold footD
  rw [hw, foot_congr h hl]
theorem acts_of (o : Oper) (st : St) : Acts (footD X ops o st) st.m.out.length (act X call ops o st.t) := by
  have hf : ∀ m : Mem, m.out.length = st.m.out.length → foot X { st with m := m } o = foot X st o := fun m hm => foot_congr (fun _ _ => rfl) hm
  refine ⟨fun m m2 v m' hm hall ha e => ?_, fun m v m' hm e => ?_⟩
  · unfold act at e ⊢
    unfold footD at hall ha ⊢
    split at e
    · rename_i hw
      simp only [if_pos hw] at hall ha ⊢
      have := hf m hm
      obtain ⟨m2', k1, k2⟩ := memStep_two (st := { st with m := m }) (by rw [this]; exact hall) (by rw [this]; exact ha) e
      rw [this] at k2
      exact ⟨m2', k1, k2⟩
    · rename_i hw
      simp only [if_neg hw, Option.some.injEq, Prod.mk.injEq] at e ⊢
      obtain ⟨rfl, rfl⟩ := e
      exact ⟨m2, ⟨rfl, rfl⟩, Two.refl _ _⟩
  · unfold act at e
    split at e
    · have := memStep_len (st := { st with m := m }) e
      rw [this]; exact hm
    · simp only [Option.some.injEq, Prod.mk.injEq] at e
      rw [← e.2]; exact hm
theorem stepD_comm {o1 o2 : Oper} {st st1 st12 : St} (hind : indep ops o1 o2 = true) (h1 : stepD X call ops o1 st = some st1) (h2 : stepD X call ops o2 st1 = some st12) (hok : (footD X ops o1 st).ok (footD X ops o2 st1) = true) :
    footD X ops o2 st = footD X ops o2 st1 ∧ ∃ st2, stepD X call ops o2 st = some st2 ∧ stepD X call ops o1 st2 = some st12 ∧ footD X ops o1 st2 = footD X ops o1 st := by
  obtain ⟨i1, i2⟩ := indep_spec hind
  rw [stepD_act] at h1 h2
  obtain ⟨⟨v1, m1⟩, e1, rfl⟩ := Option.map_eq_some_iff.1 h1
  obtain ⟨⟨v2, m12⟩, e2, rfl⟩ := Option.map_eq_some_iff.1 h2
  simp only at e2 hok ⊢
  have ho2 := opd_put (X := X) (t := st.t) (v := v1) (fun d hd => (i1 d hd).1)
  have hw2 := wanted_put (t := st.t) (v := v1) (fun d hd => (i1 d hd).1)
  have ho1 := opd_put (X := X) (t := st.t) (v := v2) i2
  have hw1 := wanted_put (t := st.t) (v := v2) i2
  have A1 := acts_of (X := X) (call := call) (ops := ops) o1 st
  have A2 := acts_of (X := X) (call := call) (ops := ops) o2 st
  have hl1 : m1.out.length = st.m.out.length := A1.len _ _ _ rfl e1
  have hf2 : footD X ops o2 st = footD X ops o2 { st with t := put st.t o1.dst v1, m := m1 } := footD_congr (fun x hx => (ho2 x hx).symm) hw2.symm hl1.symm
  have hact2 : ∀ m, act X call ops o2 (put st.t o1.dst v1) m = act X call ops o2 st.t m := by
    intro m
    unfold act memStep
    rw [hw2, evOp_congr ho2]
  have hact1 : ∀ m, act X call ops o1 (put st.t o2.dst v2) m = act X call ops o1 st.t m := by
    intro m
    unfold act memStep
    rw [hw1, evOp_congr ho1]
  rw [hact2] at e2
  rw [← hf2] at hok
  obtain ⟨m2, k1, k2⟩ := acts_comm A1 A2 hok rfl e1 e2
  refine ⟨hf2, { st with t := put st.t o2.dst v2, m := m2 }, by rw [stepD_act, k1]; rfl, ?_, ?_⟩
  · rw [stepD_act]
    simp only
    rw [hact1, k2]
    simp only [Option.map_some, Option.some.injEq]
    rw [put_comm (fun d hd => (i1 d hd).2)]
  · exact footD_congr ho1 hw1 (A2.len _ _ _ rfl k1)
end
end Go.Ev
namespace Go.Ev
def depStep (acc : List (List Nat)) (o : Oper) : List Nat := o.after.toList.foldl (fun s e => if Region.binds .any e then e.on :: (acc.getD e.on [] ++ s) else s) []
theorem deps_eq (ops : List Oper) : deps ops = ops.foldl (fun acc o => acc ++ [depStep acc o]) [] := rfl
theorem mem_depStep {acc : List (List Nat)} {o : Oper} {x : Nat} (h : x ∈ depStep acc o) : ∃ e ∈ o.after.toList, Region.binds .any e = true ∧ (x = e.on ∨ x ∈ acc.getD e.on []) := by
  have key : ∀ (l : List Edge) (s : List Nat), x ∈ l.foldl (fun s e => if Region.binds .any e then e.on :: (acc.getD e.on [] ++ s) else s) s → x ∈ s ∨ ∃ e ∈ l, Region.binds .any e = true ∧ (x = e.on ∨ x ∈ acc.getD e.on []) := by
    intro l
    induction l with
    | nil => intro s h; exact .inl h
    | cons e l ih =>
      intro s h
      rw [List.foldl_cons] at h
      rcases ih _ h with h1 | ⟨e', he', h2⟩
      · split at h1
        · rename_i hb
          rcases List.mem_cons.1 h1 with h3 | h3
          · exact .inr ⟨e, by simp, hb, .inl h3⟩
          · rcases List.mem_append.1 h3 with h4 | h4
            · exact .inr ⟨e, by simp, hb, .inr h4⟩
            · exact .inl h4
        · exact .inl h1
      · exact .inr ⟨e', by simp [he'], h2⟩
  rcases key _ _ h with h | h
  · simp at h
  · exact h
theorem foldl_deps (l : List Oper) : ∀ (acc : List (List Nat)), (l.foldl (fun acc o => acc ++ [depStep acc o]) acc).length = acc.length + l.length ∧
    (∀ i, i < acc.length → (l.foldl (fun acc o => acc ++ [depStep acc o]) acc)[i]? = acc[i]?) := by
  induction l with
  | nil => intro acc; exact ⟨rfl, fun _ _ => rfl⟩
  | cons o l ih =>
    intro acc
    obtain ⟨h1, h2⟩ := ih (acc ++ [depStep acc o])
    refine ⟨by rw [List.foldl_cons, h1]; simp; omega, fun i hi => ?_⟩
    rw [List.foldl_cons, h2 i (by simp; omega), List.getElem?_append_left hi]
theorem deps_get {ops : List Oper} {i : Nat} {o : Oper} (h : ops[i]? = some o) : (deps ops)[i]? = some (depStep (deps (ops.take i)) o) := by
  have hi : i < ops.length := by
    rcases Nat.lt_or_ge i ops.length with h' | h'
    · exact h'
    · simp [List.getElem?_eq_none h'] at h
  have hsplit : ops = ops.take i ++ o :: ops.drop (i + 1) := by
    have : ops.drop i = o :: ops.drop (i + 1) := by
      rw [List.drop_eq_getElem_cons hi]
      rw [List.getElem?_eq_getElem hi] at h
      rw [Option.some.inj h]
    rw [← this, List.take_append_drop]
  have hlen : (deps (ops.take i)).length = i := by
    rw [deps_eq, (foldl_deps _ _).1]; simp; omega
  have e : deps ops = (ops.drop (i + 1)).foldl (fun acc o => acc ++ [depStep acc o]) (deps (ops.take i) ++ [depStep (deps (ops.take i)) o]) := by
    conv => lhs; rw [hsplit, deps_eq, List.foldl_append, List.foldl_cons]
    rfl
  rw [e, (foldl_deps _ _).2 i (by simp [hlen]), List.getElem?_append_right (by omega), hlen]
  simp
theorem deps_take {ops : List Oper} {i j : Nat} (hj : j < i) : (deps (ops.take i)).getD j [] = (deps ops).getD j [] := by
  rcases Nat.lt_or_ge j ops.length with h | h
  · have h1 : ops[j]? = some ops[j] := by simp [h]
    have h2 : (ops.take i)[j]? = some ops[j] := by rw [List.getElem?_take, if_pos hj, h1]
    have e1 := deps_get h1
    have e2 := deps_get h2
    have : (ops.take i).take j = ops.take j := by rw [List.take_take, Nat.min_eq_left (by omega)]
    rw [this] at e2
    simp only [List.getD_eq_getElem?_getD, e1, e2]
  · have l1 : (deps ops).length = ops.length := by rw [deps_eq, (foldl_deps _ _).1]; simp
    have l2 : (deps (ops.take i)).length ≤ ops.length := by rw [deps_eq, (foldl_deps _ _).1]; simp; omega
    simp only [List.getD_eq_getElem?_getD]
    rw [List.getElem?_eq_none (by omega), List.getElem?_eq_none (by omega)]
theorem mem_deps {ops : List Oper} {i x : Nat} (h : x ∈ (deps ops).getD i []) : ∃ o, ops[i]? = some o ∧ ∃ e ∈ o.after.toList, Region.binds .any e = true ∧ (x = e.on ∨ (e.on < i ∧ x ∈ (deps ops).getD e.on [])) := by
  have l1 : (deps ops).length = ops.length := by rw [deps_eq, (foldl_deps _ _).1]; simp
  rcases Nat.lt_or_ge i ops.length with hi | hi
  · have h1 : ops[i]? = some ops[i] := by simp [hi]
    refine ⟨ops[i], h1, ?_⟩
    rw [List.getD_eq_getElem?_getD, deps_get h1] at h
    obtain ⟨e, he, hb, hx⟩ := mem_depStep h
    refine ⟨e, he, hb, ?_⟩
    rcases hx with hx | hx
    · exact .inl hx
    · right
      rcases Nat.lt_or_ge e.on i with hl | hl
      · exact ⟨hl, by rw [deps_take hl] at hx; exact hx⟩
      · have l2 : (deps (ops.take i)).length = i := by rw [deps_eq, (foldl_deps _ _).1]; simp; omega
        rw [List.getD_eq_getElem?_getD, List.getElem?_eq_none (by omega)] at hx
        simp at hx
  · rw [List.getD_eq_getElem?_getD, List.getElem?_eq_none (by omega)] at h
    simp at h
section
variable {X : Env} {call : CallF} {ops : Array Oper}
theorem drawOk_spec (h : drawOk ops = true) : (∀ i o, ops[i]? = some o → ∀ e ∈ o.after.toList, Region.binds .any e = true → e.on < i) ∧
    (∀ i j oi oj, i < j → ops[i]? = some oi → ops[j]? = some oj → i ∉ (deps ops.toList).getD j [] → indep ops oi oj = true) := by
  unfold drawOk at h
  simp only [Bool.and_eq_true, List.all_eq_true] at h
  obtain ⟨h1, h2⟩ := h
  have mem : ∀ i o, ops[i]? = some o → (o, i) ∈ ops.toList.zipIdx := by
    intro i o ho
    rw [List.mk_mem_zipIdx_iff_getElem?]
    simpa using ho
  refine ⟨fun i o ho e he hb => ?_, fun i j oi oj hij hoi hoj hn => ?_⟩
  · have := h1 (o, i) (mem i o ho) e he
    simpa [hb] using this
  · have := h2 (oi, i) (mem i oi hoi) (oj, j) (mem j oj hoj)
    simp only [Bool.or_eq_true, decide_eq_true_eq, List.contains_iff_mem] at this
    rcases this with (h | h) | h
    · omega
    · exact absurd h hn
    · exact h
theorem deps_lt (h : drawOk ops = true) : ∀ i x, x ∈ (deps ops.toList).getD i [] → x < i := by
  obtain ⟨hE, _⟩ := drawOk_spec h
  intro i
  induction i using Nat.strongRecOn with
  | _ i ih =>
    intro x hx
    obtain ⟨o, ho, e, he, hb, hx'⟩ := mem_deps hx
    have hlt := hE i o (by simpa using ho) e he hb
    rcases hx' with rfl | ⟨_, hx'⟩
    · exact hlt
    · have := ih e.on hlt x hx'
      omega
def exec (X : Env) (call : CallF) (ops : Array Oper) : List Nat → St → Option (St × List (Nat × Foot))
  | [], st => some (st, [])
  | i :: l, st =>
    match ops[i]? with
    | none => none
    | some o =>
      match stepD X call ops o st with
      | none => none
      | some st' =>
        match exec X call ops l st' with
        | some (r, fs) => some (r, (i, footD X ops o st) :: fs)
        | none => none
theorem exec_cons {i : Nat} {l : List Nat} {st r : St} {fs : List (Nat × Foot)} (h : exec X call ops (i :: l) st = some (r, fs)) :
    ∃ o st' fs', ops[i]? = some o ∧ stepD X call ops o st = some st' ∧ exec X call ops l st' = some (r, fs') ∧ fs = (i, footD X ops o st) :: fs' := by
  rw [exec] at h
  split at h
  · simp at h
  · rename_i o ho
    split at h
    · simp at h
    · rename_i st' hs
      split at h
      · rename_i r' fs' he
        simp only [Option.some.injEq, Prod.mk.injEq] at h
        obtain ⟨rfl, rfl⟩ := h
        exact ⟨o, st', fs', ho, hs, he, rfl⟩
      · simp at h
theorem exec_mk {i : Nat} {l : List Nat} {st st' r : St} {fs : List (Nat × Foot)} {o : Oper} (ho : ops[i]? = some o) (hs : stepD X call ops o st = some st') (he : exec X call ops l st' = some (r, fs)) :
    exec X call ops (i :: l) st = some (r, (i, footD X ops o st) :: fs) := by
  rw [exec]; simp only [ho, hs, he]
theorem exec_move {i : Nat} {l2 : List Nat} {r : St} : ∀ (l1 : List Nat) (st : St) (fs : List (Nat × Foot)), exec X call ops (l1 ++ i :: l2) st = some (r, fs) →
    (∀ x ∈ l1, ∀ ox oi, ops[x]? = some ox → ops[i]? = some oi → indep ops ox oi = true) → (∀ x ∈ l1, ∀ fx fi, (x, fx) ∈ fs → (i, fi) ∈ fs → fx.ok fi = true) →
    ∃ fs', exec X call ops (i :: (l1 ++ l2)) st = some (r, fs') ∧ ∀ p, p ∈ fs' ↔ p ∈ fs
  | [], st, fs, h, _, _ => ⟨fs, h, fun _ => Iff.rfl⟩
  | x :: l1, st, fs, h, hi, hf => by
    obtain ⟨ox, sx, fs1, hox, hsx, he, rfl⟩ := exec_cons h
    obtain ⟨fs2, he2, hm2⟩ := exec_move l1 sx fs1 he (fun y hy => hi y (by simp [hy])) (fun y hy fx fi h1 h2 => hf y (by simp [hy]) fx fi (by simp [h1]) (by simp [h2]))
    obtain ⟨oi, sxi, fs3, hoi, hsi, he3, rfl⟩ := exec_cons he2
    have hok := hf x (by simp) (footD X ops ox st) (footD X ops oi sx) (by simp) (by
      have := (hm2 (i, footD X ops oi sx)).1 (by simp)
      simp [this])
    obtain ⟨hfoot, s2, k1, k2, k3⟩ := stepD_comm (hi x (by simp) ox oi hox hoi) hsx hsi hok
    have e1 := exec_mk hox k2 he3
    have e2 := exec_mk hoi k1 e1
    refine ⟨_, e2, fun p => ?_⟩
    have hm := hm2 p
    rw [hfoot, k3]
    simp only [List.mem_cons] at hm ⊢
    constructor
    · rintro (h | h | h)
      · exact .inr (hm.1 (.inl h))
      · exact .inl h
      · exact .inr (hm.1 (.inr h))
    · rintro (h | h)
      · exact .inr (.inl h)
      · rcases hm.2 h with h | h
        · exact .inl h
        · exact .inr (.inr h)
def PW (ds : List (List Nat)) (fs : List (Nat × Foot)) : Prop := ∀ p ∈ fs, ∀ q ∈ fs, p.1 < q.1 → comparable ds p.1 q.1 = true ∨ p.2.ok q.2 = true
theorem evOpsD_exec (ds : List (List Nat)) : ∀ (l : List Oper) (i : Nat) (pre : List Foot) (st r : St), pre.length = i → (∀ j, l[j]? = ops[i + j]?) → evOpsD X call ops ds i pre l st = some r →
    PW ds ((pre.zipIdx).map fun p => (p.2, p.1)) → ∃ fs, exec X call ops (List.range' i l.length) st = some (r, fs) ∧ PW ds ((pre.zipIdx).map (fun p => (p.2, p.1)) ++ fs)
  | [], i, pre, st, r, _, _, h, hp => by
    simp only [evOpsD, Option.some.injEq] at h; subst h
    exact ⟨[], rfl, by simpa using hp⟩
  | o :: l, i, pre, st, r, hl, hk, h, hp => by
    rw [evOpsD] at h
    split at h
    · rename_i hc
      split at h
      · rename_i st' hs
        have hk0 : ops[i]? = some o := by simpa using (hk 0).symm
        have hzip : ((pre ++ [footD X ops o st]).zipIdx).map (fun p => (p.2, p.1)) = (pre.zipIdx).map (fun p => (p.2, p.1)) ++ [(i, footD X ops o st)] := by
          rw [List.zipIdx_append]; simp [hl]
        have hmem : ∀ p ∈ (pre.zipIdx).map (fun p => (p.2, p.1)), p.1 < i ∧ (comparable ds p.1 i = true ∨ p.2.ok (footD X ops o st) = true) := by
          intro p hp
          obtain ⟨q, hq, rfl⟩ := List.mem_map.1 hp
          have hlt : q.2 < i := by
            have := List.snd_lt_of_mem_zipIdx hq
            omega
          refine ⟨hlt, ?_⟩
          simp only [Bool.or_eq_true, List.all_eq_true] at hc
          rcases hc with hc | hc
          · right; simp [Foot.ok, hc]
          · have := hc q hq
            simpa [Bool.or_eq_true] using this
        have hp' : PW ds (((pre ++ [footD X ops o st]).zipIdx).map fun p => (p.2, p.1)) := by
          rw [hzip]
          intro p hp1 q hq1 hlt
          rcases List.mem_append.1 hp1 with h1 | h1
          · rcases List.mem_append.1 hq1 with h2 | h2
            · exact hp p h1 q h2 hlt
            · simp only [List.mem_singleton] at h2
              subst h2
              exact (hmem p h1).2
          · simp only [List.mem_singleton] at h1
            subst h1
            rcases List.mem_append.1 hq1 with h2 | h2
            · have := (hmem q h2).1
              simp only at hlt
              omega
            · simp only [List.mem_singleton] at h2
              subst h2
              simp at hlt
        obtain ⟨fs, e1, e2⟩ := evOpsD_exec ds l (i + 1) (pre ++ [footD X ops o st]) st' r (by simp [hl]) (fun j => by have := hk (j + 1); simpa [Nat.add_assoc, Nat.add_comm 1 j] using this) h hp'
        refine ⟨(i, footD X ops o st) :: fs, ?_, ?_⟩
        · rw [List.length_cons, List.range'_succ]
          exact exec_mk hk0 hs e1
        · rw [hzip] at e2
          simpa using e2
      · simp at h
    · simp at h
end
end Go.Ev
namespace Go.Ev
section
variable {X : Env} {call : CallF} {ops : Array Oper}
theorem step_wp (hcall : CallOk X call) (hext : ExtOk X) {n L : Nat} {I : Imm} {w : World} {φ : Phi} {st st1 : St} {a : Act} {i : Nat} {o : Oper} (ho : ops[i]? = some o) (hd : ∀ d, o.dst = some d → d < n) (h : StOk X I w φ n L st a)
    (e : stepD X call ops o st = some st1) {K : Act → World → Prop} {Q : Exit → Act → World → Prop} (hK : ∀ a' w' I' φ', Ext I w φ I' w' φ' → StOk X I' w' φ' n L st1 a' → K a' w') : wpOp X.P ops Q i K a w := by
  unfold wpOp
  simp only [ho]
  rw [← wanted_ok h]
  unfold stepD at e
  split at e
  · rename_i hw
    rw [if_pos hw]
    left
    unfold memStep at e
    cases hev : evOp X st.m st.t o with
    | none => simp [hev] at e
    | some r =>
      rw [hev] at e
      refine upon_sound hcall hext h hd hev ?_ ?_ ?_ ?_ ?_
      · rintro v m rfl a' w' I' φ' he' h'
        simp only [Option.some.injEq] at e; subst e
        exact hK _ _ _ _ he' h'
      · rintro m rfl a' w' I' φ' he' h'
        simp only [Option.some.injEq] at e; subst e
        exact hK _ _ _ _ he' h'
      · rintro f args m rfl
        simp only at e
        cases hdo : doCall X call f args m (o.dst.getD 0) with
        | none => simp [hdo] at e
        | some res =>
          refine ⟨res, rfl, ?_, ?_⟩
          · rintro v m' rfl a' w' I' φ' he' h'
            simp only [hdo, Option.some.injEq] at e; subst e
            exact hK _ _ _ _ he' h'
          · rintro v m' rfl w' I' φ' x he' h' hr
            simp [hdo] at e
      · rintro f cap rfl a' h'
        simp at e
      · rintro v rfl x hr
        simp at e
  · rename_i hw
    rw [if_neg hw]
    simp only [Option.some.injEq] at e; subst e
    exact hK _ _ I φ (Ext.refl _ _ _) (skip_ok h hd)
theorem getD_set {l : Array Bool} {i j : Nat} (hi : i < l.size) (d : Bool) : (l.setIfInBounds i true).getD j d = if i = j then true else l.getD j d := by
  split
  · rename_i h; subst h; simp [hi]
  · rename_i h; simp [Array.getElem?_setIfInBounds_ne h]
theorem any_sound (hok : drawOk ops = true) (hcall : CallOk X call) (hext : ExtOk X) {n L : Nat} (hd : ∀ o ∈ ops.toList, ∀ d, o.dst = some d → d < n) {I0 : Imm} {w0 : World} {φ0 : Phi} {st' : St} :
    ∀ (fuel : Nat) (listed : Array Bool) (rem : List Nat) (st : St) (fs : List (Nat × Foot)) (I : Imm) (w : World) (φ : Phi) (a : Act), listed.size = ops.size → rem.length = fuel → (∀ i, i ∈ rem ↔ i < ops.size ∧ listed.getD i false = false) → rem.Pairwise (· < ·) →
      (∀ i o, ops[i]? = some o → listed.getD i false = true → ∀ e ∈ o.after.toList, Region.binds .any e = true → listed.getD e.on false = true) →
      exec X call ops rem st = some (st', fs) → PW (deps ops.toList) fs → Ext I0 w0 φ0 I w φ → StOk X I w φ n L st a →
      wpAny X.P .any ops (OutQ X I0 w0 φ0 n L (.normal, st')) fuel listed a w := by
  obtain ⟨hE, hI⟩ := drawOk_spec hok
  intro fuel
  have unl : ∀ (listed : Array Bool) (i : Nat), listed.size = ops.size → i < ops.size → (listed.getD i true = false ↔ listed.getD i false = false) := by
    intro listed i hs hi
    have : i < listed.size := by omega
    simp [this]
  have ready_iff : ∀ (listed : Array Bool) (i : Nat), listed.size = ops.size → (i ∈ Region.ready .any ops listed ↔ i < ops.size ∧ listed.getD i false = false ∧ ∀ o, ops[i]? = some o → ∀ e ∈ o.after.toList, Region.binds .any e = true → listed.getD e.on false = true) := by
    intro listed i hs
    rw [mem_ready]
    constructor
    · rintro ⟨h1, o, ho, h2⟩
      have hi : i < ops.size := (Array.getElem?_eq_some_iff.1 ho).1
      refine ⟨hi, (unl listed i hs hi).1 h1, fun o' ho' e he hb => ?_⟩
      rw [ho] at ho'
      have := Option.some.inj ho'
      subst this
      exact h2 e (Array.mem_toList_iff.1 he) hb
    · rintro ⟨hi, h1, h2⟩
      have ho : ops[i]? = some ops[i] := by simp [hi]
      exact ⟨(unl listed i hs hi).2 h1, ops[i], ho, fun e he hb => h2 _ ho e (Array.mem_toList_iff.2 he) hb⟩
  induction fuel with
  | zero =>
    intro listed rem st fs I w φ a hs hl hrem _ _ hex _ he h
    have hnil : rem = [] := List.length_eq_zero_iff.1 hl
    subst hnil
    simp only [exec, Option.some.injEq, Prod.mk.injEq] at hex
    obtain ⟨rfl, _⟩ := hex
    refine ⟨?_, I, φ, he, h, trivial⟩
    apply List.eq_nil_iff_forall_not_mem.2
    intro i hi
    obtain ⟨h1, h2, _⟩ := (ready_iff listed i hs).1 hi
    have := (hrem i).2 ⟨h1, h2⟩
    simp at this
  | succ fuel ih =>
    intro listed rem st fs I w φ a hs hl hrem hsort hclosed hex hpw he h
    refine ⟨fun hnone => ?_, fun i hi => ?_⟩
    · exfalso
      cases rem with
      | nil => simp at hl
      | cons k rest =>
        obtain ⟨hk1, hk2⟩ := (hrem k).1 (by simp)
        have : k ∈ Region.ready .any ops listed := by
          rw [ready_iff listed k hs]
          refine ⟨hk1, hk2, fun o ho e hem hb => ?_⟩
          have hlt := hE k o ho e hem hb
          cases hle : listed.getD e.on false with
          | true => rfl
          | false =>
            have hin := (hrem e.on).2 ⟨by omega, hle⟩
            rcases List.mem_cons.1 hin with h1 | h1
            · omega
            · have := (List.pairwise_cons.1 hsort).1 e.on h1
              omega
        rw [hnone] at this
        simp at this
    · obtain ⟨hi1, hi2, hi3⟩ := (ready_iff listed i hs).1 hi
      have hin := (hrem i).2 ⟨hi1, hi2⟩
      obtain ⟨l1, l2, rfl⟩ := List.append_of_mem hin
      have hoi : ops[i]? = some ops[i] := by simp [hi1]
      rw [List.pairwise_append] at hsort
      obtain ⟨s1, s2, s3⟩ := hsort
      have s4 := List.pairwise_cons.1 s2
      have hdeps : ∀ x, x ∈ (deps ops.toList).getD i [] → listed.getD x false = true := by
        have key : ∀ j, (∀ o, ops[j]? = some o → ∀ e ∈ o.after.toList, Region.binds .any e = true → listed.getD e.on false = true) → ∀ x, x ∈ (deps ops.toList).getD j [] → listed.getD x false = true := by
          intro j
          induction j using Nat.strongRecOn with
          | _ j ihj =>
            intro hj x hx
            obtain ⟨o, ho, e, hem, hb, hx'⟩ := mem_deps hx
            have ho' : ops[j]? = some o := by simpa using ho
            have hle := hj o ho' e hem hb
            rcases hx' with rfl | ⟨hlt, hx'⟩
            · exact hle
            · exact ihj e.on hlt (fun o2 ho2 e2 he2 hb2 => hclosed e.on o2 ho2 hle e2 he2 hb2) x hx'
        exact key i hi3
      have hl1 : ∀ x ∈ l1, x < i ∧ x ∉ (deps ops.toList).getD i [] := by
        intro x hx
        refine ⟨s3 x hx i (by simp), fun hm => ?_⟩
        have h1 := hdeps x hm
        have h2 := ((hrem x).1 (by simp [hx])).2
        rw [h1] at h2
        simp at h2
      obtain ⟨fs', hex', hmem⟩ := exec_move l1 st fs hex
        (fun x hx ox oi hox hoi' => hI x i ox oi (hl1 x hx).1 hox hoi' (hl1 x hx).2)
        (fun x hx fx fi h1 h2 => by
          rcases hpw (x, fx) h1 (i, fi) h2 (hl1 x hx).1 with hc | hc
          · exfalso
            simp only [comparable, Bool.or_eq_true, List.contains_iff_mem] at hc
            rcases hc with hc | hc
            · exact (hl1 x hx).2 hc
            · have h1 := deps_lt hok x i hc
              have h2 := (hl1 x hx).1
              omega
          · exact hc)
      obtain ⟨o, st1, fs1, ho, hst, hex1, rfl⟩ := exec_cons hex'
      have hdo : ∀ d, o.dst = some d → d < n := hd o (by
        rw [Array.mem_toList_iff]
        exact Array.mem_of_getElem? ho)
      refine step_wp hcall hext ho hdo h hst (fun a' w' I' φ' he' h' => ?_)
      have hsz : i < listed.size := by omega
      refine ih (listed.setIfInBounds i true) (l1 ++ l2) st1 fs1 I' w' φ' a' (by simpa using hs) (by simp at hl ⊢; omega) (fun j => ?_) ?_ ?_ hex1 ?_ (he.trans he') h'
      · rw [getD_set hsz]
        constructor
        · intro hj
          have hj' : j ∈ l1 ++ i :: l2 := by
            rcases List.mem_append.1 hj with h1 | h1 <;> simp [h1]
          obtain ⟨q1, q2⟩ := (hrem j).1 hj'
          have hne : i ≠ j := by
            rintro rfl
            rcases List.mem_append.1 hj with h1 | h1
            · have := (hl1 i h1).1; omega
            · have := s4.1 i h1; omega
          exact ⟨q1, by rw [if_neg hne]; exact q2⟩
        · rintro ⟨q1, q2⟩
          split at q2
          · simp at q2
          · rename_i hne
            have := (hrem j).2 ⟨q1, q2⟩
            rcases List.mem_append.1 this with h1 | h1
            · exact List.mem_append_left _ h1
            · rcases List.mem_cons.1 h1 with h2 | h2
              · exact absurd h2.symm hne
              · exact List.mem_append_right _ h2
      · rw [List.pairwise_append]
        exact ⟨s1, s4.2, fun x hx y hy => s3 x hx y (by simp [hy])⟩
      · intro j oj hoj hj e hem hb
        rw [getD_set hsz] at hj ⊢
        split
        · rfl
        · split at hj
          · rename_i hij
            subst hij
            exact hi3 oj hoj e hem hb
          · exact hclosed j oj hoj hj e hem hb
      · intro p hp q hq hlt
        exact hpw p ((hmem p).1 (by simp [hp])) q ((hmem q).1 (by simp [hq])) hlt
theorem draw_sound (hmix : X.P.follows .mixedOrders = true) (hcall : CallOk X call) (hext : ExtOk X) : DrawSound X call := by
  intro id ops n L st st' I w φ a hok hd h e
  refine wp_region_any hmix ?_
  have hdrew : MemOk X.P I w.drew φ st.m ∧ Ext I w φ I w.drew φ := step_drew h.mem
  have h1 : StOk X I w.drew φ n L st a := by
    have := h.ext hdrew.2 hdrew.1 h.len
    exact this
  obtain ⟨fs, e1, e2⟩ := evOpsD_exec (ops := ops) (deps ops.toList) ops.toList 0 [] st st' rfl (fun j => by simp) e (fun p hp => by simp at hp)
  have hlist : List.range' 0 ops.toList.length = List.range ops.size := by rw [List.range_eq_range', Array.length_toList]
  rw [hlist] at e1
  have hfalse : ∀ i, (Array.replicate ops.size false).getD i false = false := by
    intro i
    rw [Array.getD_eq_getD_getElem?, Array.getElem?_replicate]
    split <;> rfl
  refine any_sound hok hcall hext hd ops.size (Array.replicate ops.size false) (List.range ops.size) st fs I _ φ a (by simp) (by simp) (fun i => ?_) List.pairwise_lt_range (fun i o _ hl => by rw [hfalse] at hl; simp at hl) e1 (by simpa using e2) hdrew.2 h1
  rw [hfalse]
  simp
end
end Go.Ev
namespace Go.Ev
theorem grown_of {I I' : Imm} {w w' : World} {φ' : Phi} (h : Ext I w (fun _ => none) I' w' φ') : RowKit.Grown w w' := by
  have hb : ∀ b, b < w.heap.size → w'.heap[b]? = w.heap[b]? := fun b hb => h.block b hb (fun r l hl => by simp at hl)
  refine ⟨⟨h.os, h.output, fun i hi => ?_⟩, fun a => ?_, h.hsize⟩
  · rw [hb i hi]
    cases hx : w.heap[i]? with
    | none => rfl
    | some x => cases x <;> first | exact ⟨rfl, rfl, rfl, fun _ _ => rfl⟩ | exact .inr ⟨rfl, rfl⟩ | rfl
  · rcases Nat.lt_or_ge a.block w.heap.size with ha | ha
    · unfold World.frozen?
      rw [hb a.block ha]
    · have hn : w.heap[a.block]? = none := Array.getElem?_eq_none ha
      have hp : PlainAt w' a.block := h.plain a.block (fun x hx => by rw [hn] at hx; simp at hx)
      unfold World.frozen?
      rw [hn]
      cases hx : w'.heap[a.block]? with
      | none => rfl
      | some x =>
        obtain ⟨cs, t, rfl⟩ := hp x hx
        simp
theorem calls_of {X : Env} (hmix : X.P.follows .mixedOrders = true) (hext : ExtOk X) {k : Nat} {f : FuncId} {args : List V} {v : V} {out : List Rows} (e : evFn X k f args [] = some (.ret v, out))
    {I : Imm} {w : World} {xs : List Value} (hold : ∀ b o, I b o → b < w.heap.size) (hg : GlobOk X I w) (ha : All2 (RelP I w) args xs) :
    Calls X.P f ⟨xs⟩ w fun e w' => ∃ x, e = .returned x ∧ RowKit.Grown w w' ∧ ∃ I' U', Ext I w (fun _ => none) I' w' (fun _ => none) ∧ RelR X.P I' w' (fun _ => none) (usedB w fun _ => none) v x U' := by
  have hcall := (all_sound hext (fun k h => draw_sound hmix h hext) k).1
  refine Calls.mono (hcall f args [] _ e I w (fun _ => none) xs hold hg (fun _ => rfl) (ha.mono fun _ _ h => .p h)) (fun e w' h => ?_)
  cases e with
  | returned x =>
    obtain ⟨I', φ', U', k1, k2, k3, k4⟩ := h
    have hφ := out_nil k2 (by simpa using k3)
    subst hφ
    exact ⟨x, rfl, grown_of k1, I', U', k1, k4⟩
  | panicked c => exact h.elim
  | outgrown => exact h.elim
theorem calls_bool {X : Env} (hmix : X.P.follows .mixedOrders = true) (hext : ExtOk X) {f : FuncId} {args : List V} {b : Bool} (hr : Runs X f args (.ret (.bool b)))
    {I : Imm} {w : World} {xs : List Value} (hold : ∀ b o, I b o → b < w.heap.size) (hg : GlobOk X I w) (ha : All2 (RelP I w) args xs) :
    Calls X.P f ⟨xs⟩ w fun e w' => e = .returned (.bool b) ∧ RowKit.Grown w w' := by
  obtain ⟨out, k, e⟩ := hr
  refine Calls.mono (calls_of hmix hext e hold hg ha) (fun e w' h => ?_)
  obtain ⟨x, rfl, hgr, I', U', _, hR⟩ := h
  refine ⟨?_, hgr⟩
  have := plain_rel (X := X) (I' := I') (w' := w') (φ' := fun _ => none) hR rfl
  rw [rel_bool this]
end Go.Ev
namespace Go.Proofs.YtpocekfifokndaaDoor
open Go Go.Shelf
def lays146_ren : Go.Shelf.Ren := ⟨fun | 146 => 91 | 221 => 136 | 268 => 151 | 138 => 152 | 143 => 153 | 195 => 159 | 197 => 160 | 218 => 161 | 219 => 162 | 260 => 171 | 217 => 172 | 225 => 173 | 224 => 174 | 267 => 175 | 266 => 181 | 314 => 182 | n => n, fun | 9 => 9 | 31 => 94 | 3 => 3 | 4 => 4 | 0 => 0 | 105 => 181 | 21 => 21 | 5 => 5 | 46 => 195 | 119 => 201 | 139 => 204 | 138 => 203 | 146 => 205 | 51 => 198 | n => n, fun | 1 => 1 | 3 => 3 | 4 => 4 | n => n⟩
theorem lays146 : Go.Proofs.Lays.n146 Tryd.prog lays146_ren := {
  mixed := by kernel_rfl
  f138 := Tryd.func152.trans (congrArg some (by kernel_rfl))
  f143 := Tryd.func153.trans (congrArg some (by kernel_rfl))
  f146 := Tryd.func91.trans (congrArg some (by kernel_rfl))
  f195 := Tryd.func159.trans (congrArg some (by kernel_rfl))
  f197 := Tryd.func160.trans (congrArg some (by kernel_rfl))
  f217 := Tryd.func172.trans (congrArg some (by kernel_rfl))
  f218 := Tryd.func161.trans (congrArg some (by kernel_rfl))
  f219 := Tryd.func162.trans (congrArg some (by kernel_rfl))
  f221 := Tryd.func136.trans (congrArg some (by kernel_rfl))
  f224 := Tryd.func174.trans (congrArg some (by kernel_rfl))
  f225 := Tryd.func173.trans (congrArg some (by kernel_rfl))
  f260 := Tryd.func171.trans (congrArg some (by kernel_rfl))
  f266 := Tryd.func181.trans (congrArg some (by kernel_rfl))
  f267 := Tryd.func175.trans (congrArg some (by kernel_rfl))
  f268 := Tryd.func151.trans (congrArg some (by kernel_rfl))
  f314 := Tryd.func182.trans (congrArg some (by kernel_rfl))
  t0 := Tryd.underlying0
  a0 := Tryd.isAgg0
  z0 := Tryd.sizeOf0
  v0 := Tryd.zeroValue0
  t3 := Tryd.underlying3
  a3 := Tryd.isAgg3
  z3 := Tryd.sizeOf3
  v3 := Tryd.zeroValue3
  t4 := Tryd.underlying4
  a4 := Tryd.isAgg4
  z4 := Tryd.sizeOf4
  v4 := Tryd.zeroValue4
  t5 := Tryd.underlying5
  a5 := Tryd.isAgg5
  z5 := Tryd.sizeOf5
  v5 := Tryd.zeroValue5
  t9 := Tryd.underlying9
  a9 := Tryd.isAgg9
  z9 := Tryd.sizeOf9
  v9 := Tryd.zeroValue9
  t21 := Tryd.underlying21
  a21 := Tryd.isAgg21
  z21 := Tryd.sizeOf21
  v21 := Tryd.zeroValue21
  t31 := Tryd.underlying94
  a31 := Tryd.isAgg94
  z31 := Tryd.sizeOf94
  v31 := Tryd.zeroValue94
  t46 := Tryd.underlying195
  a46 := Tryd.isAgg195
  z46 := Tryd.sizeOf195
  v46 := Tryd.zeroValue195
  t51 := Tryd.underlying198
  a51 := Tryd.isAgg198
  z51 := Tryd.sizeOf198
  v51 := Tryd.zeroValue198
  t105 := Tryd.underlying181
  a105 := Tryd.isAgg181
  z105 := Tryd.sizeOf181
  v105 := Tryd.zeroValue181
  t119 := Tryd.underlying201
  a119 := Tryd.isAgg201
  z119 := Tryd.sizeOf201
  t138 := Tryd.underlying203
  a138 := Tryd.isAgg203
  z138 := Tryd.sizeOf203
  v138 := Tryd.zeroValue203
  t139 := Tryd.underlying204
  a139 := Tryd.isAgg204
  z139 := Tryd.sizeOf204
  v139 := Tryd.zeroValue204
  t146 := Tryd.underlying205
  a146 := Tryd.isAgg205
  z146 := Tryd.sizeOf205
  v146 := Tryd.zeroValue205
  g1 := by kernel_rfl
  g3 := by kernel_rfl
  g4 := by kernel_rfl }
open Go.RowKit Go.Lib in
theorem lib_Split (s sep : ByteArray) (m : Int) (w : World) (hs : s.size < 4294967281) (hm : w.cell? ⟨1, 0, none⟩ = some (.int .i64 m)) (h1 : 1 ≤ sep.size) :
    Calls Tryd.prog 91 #[.string s, .string sep] w fun e w' =>
      e = .returned (.slice (some ⟨w.heap.size, 0, none⟩) (Lib.countB s sep + 1) (Lib.countB s sep + 1)) ∧ w' = w.alloc (.cells ((Lib.splitB sep 0 (Lib.countB s sep) s).map Value.string).toArray 9) := Any.strings_Split lays146 (by kernel_rfl) s sep m w hs hm h1
end Go.Proofs.YtpocekfifokndaaDoor
namespace Go.Proofs.YtpocekfifokndaaDoor
open Go Go.Ev Go.Pl
theorem index_cons_ne {b c : UInt8} (l : List UInt8) (h : b ≠ c) : Lib.index (b :: l) [c] = if Lib.index l [c] == -1 then -1 else Lib.index l [c] + 1 := by
  have hp : ([c] : List UInt8).isPrefixOf (b :: l) = false := by simp [List.isPrefixOf, Ne.symm h]
  rw [Lib.index, hp]; simp
theorem index_cons_eq (c : UInt8) (l : List UInt8) : Lib.index (c :: l) [c] = 0 := by rw [Lib.index]; simp [List.isPrefixOf]
theorem split_lib (c : UInt8) : ∀ l : List UInt8, Lib.splitK [c] 0 (Lib.count l [c]) l = splitB c l
  | [] => by
    rw [Lib.count_one, List.count_nil]; rfl
  | b :: l => by
    have ih := split_lib c l
    by_cases h : b = c
    · subst h
      rw [Lib.count_cons_eq, Nat.add_comm, Lib.splitK, index_cons_eq, if_neg (by decide)]
      simp only [Int.toNat_zero, Nat.zero_add, List.take_zero, List.length_cons, List.length_nil, List.drop_succ_cons, List.drop_zero]
      rw [ih]
      simp [splitB]
    · rw [Lib.count_cons_ne b c l h]
      cases hk : Lib.count l [c] with
      | zero =>
        rw [hk] at ih
        simp only [Lib.splitK] at ih ⊢
        rw [splitB, if_neg h, ← ih]
      | succ k =>
        rw [hk] at ih
        simp only [Lib.splitK] at ih ⊢
        rw [splitB, if_neg h, ← ih, index_cons_ne l h]
        have hge := Lib.index_ge l [c]
        by_cases hm : Lib.index l [c] = -1
        · rw [hm]; simp
        · have e1 : ¬ ((Lib.index l [c] == -1) = true) := fun e => hm (beq_iff_eq.1 e)
          rw [if_neg e1, if_neg e1]
          have e2 : ¬ ((Lib.index l [c] + 1 == -1) = true) := fun e => by have := beq_iff_eq.1 e; omega
          rw [if_neg e2]
          have e3 : (Lib.index l [c] + 1).toNat = (Lib.index l [c]).toNat + 1 := by omega
          rw [e3]
          simp only [Nat.add_zero, List.take_succ_cons, List.length_cons, List.length_nil, Nat.zero_add]
          rw [show (Lib.index l [c]).toNat + 1 + 1 = ((Lib.index l [c]).toNat + 1) + 1 from rfl, List.drop_succ_cons]
theorem all2_two {R : V → Value → Prop} {a b : V} {xs : List Value} (h : All2 R [a, b] xs) : ∃ x y, xs = [x, y] ∧ R a x ∧ R b y := by
  obtain ⟨hl, hr⟩ := h
  match xs, hl with
  | [x, y], _ => exact ⟨x, y, rfl, hr 0 _ _ rfl rfl, hr 1 _ _ rfl rfl⟩
theorem split_rel {I : Imm} {w : World} {s : List UInt8} (hold : ∀ b o, I b o → b < w.heap.size) {m : Int} (hm : w.cell? ⟨1, 0, none⟩ = some (.int .i64 m)) (hs : s.length < 4294967281) :
    Calls Tryd.prog 91 #[.string ⟨s.toArray⟩, .string ⟨#[58]⟩] w (FnPost Tryd.prog I w (fun _ => none) [] (.ret (.sl ((splitB 58 s).map .str)), [])) := by
  have hsz : (⟨s.toArray⟩ : ByteArray).size = s.length := by simp [ByteArray.size]
  refine (lib_Split ⟨s.toArray⟩ ⟨#[58]⟩ m w (by rw [hsz]; exact hs) hm (by decide)).mono fun e w' ⟨he, hw⟩ => ?_
  have hd : (Lib.splitB ⟨#[58]⟩ 0 (Lib.countB ⟨s.toArray⟩ ⟨#[58]⟩) ⟨s.toArray⟩).map (fun x => x.data.toList) = splitB 58 s := by
    rw [Lib.splitB_data, ← split_lib]
  have hlen : (splitB 58 s).length = Lib.countB ⟨s.toArray⟩ ⟨#[58]⟩ + 1 := by
    rw [← hd, List.length_map]
    exact Lib.splitB_all ⟨#[58]⟩ (by decide) 0 _ _ rfl
  have hcells : (Lib.splitB ⟨#[58]⟩ 0 (Lib.countB ⟨s.toArray⟩ ⟨#[58]⟩) ⟨s.toArray⟩).map Value.string = (splitB 58 s).map (fun x => Value.string ⟨x.toArray⟩) := by
    rw [← hd, List.map_map]
    refine List.map_congr_left fun x _ => ?_
    simp
  rw [hcells] at hw
  rw [← hlen] at he
  subst he
  subst hw
  generalize splitB 58 s = L
  refine ⟨fun b o => I b o ∨ b = w.heap.size, fun _ => none, usedB w fun _ => none, ?_, fun _ => rfl, rfl, ?_⟩
  · exact
      { imm := fun _ _ h => .inl h
        cell := fun b o x hI hx => by rw [World.cell?_alloc_old _ _ _ (Nat.ne_of_lt (hold b o hI))]; exact hx
        phi := fun _ _ h => h
        hsize := by
          show w.heap.size ≤ (w.heap.push _).size
          rw [Array.size_push]; omega
        os := rfl, tape := rfl, output := rfl
        block := fun b hb _ => heap_alloc_lt hb
        fresh := fun r l h => by simp at h
        immNew := fun b o h => h.elim .inl fun h => .inr (.inr (by rw [h]; exact Nat.le_refl _))
        plain := fun b hb x hx => by
          rcases heap_alloc_cases hx with ⟨_, h⟩ | h
          · exact ⟨_, _, h⟩
          · exact hb x h
        old := fun h b o hI => by
          have : (w.alloc (.cells ((L.map fun x => Value.string ⟨x.toArray⟩)).toArray 9)).heap.size = w.heap.size + 1 := by
            show (w.heap.push _).size = _
            rw [Array.size_push]
          rw [this]
          rcases hI with h' | h'
          · have := h b o h'; omega
          · omega }
  · refine .one (fun _ e => by cases e) (.one rfl (.rel (.p ?_) rfl))
    have key := RelP.sl (I := fun b o => I b o ∨ b = w.heap.size) (w := w.alloc (.cells ((L.map fun x => Value.string ⟨x.toArray⟩)).toArray 9)) (es := L.map V.str) (b := w.heap.size) (o := 0) (z := 1) (cap := L.length)
      (fun j _ => Value.string ⟨(L.getD j []).toArray⟩) (by simp) (fun j e he => by
        rw [List.getElem?_map] at he
        cases hx : L[j]? with
        | none => rw [hx] at he; simp at he
        | some x => rw [hx] at he; simp at he; subst he; rfl)
      (fun j e c v he hc => by
        rw [List.getElem?_map] at he
        cases hx : L[j]? with
        | none => rw [hx] at he; simp at he
        | some x =>
          rw [hx] at he; simp at he; subst he
          have hc0 : c = 0 := by cases c with | zero => rfl | succ c => simp [V.cells] at hc
          subst hc0
          refine ⟨?_, .inr rfl, rfl⟩
          rw [World.cell?_alloc_at _ _ _ _ rfl]
          simp [hx])
      (fun j e c v he hc => by
        rw [List.getElem?_map] at he
        cases hx : L[j]? with
        | none => rw [hx] at he; simp at he
        | some x =>
          rw [hx] at he; simp at he; subst he
          have hc0 : c = 0 := by cases c with | zero => rfl | succ c => simp [V.cells] at hc
          subst hc0
          simp [V.cells] at hc
          subst hc
          rw [List.getD_eq_getElem?_getD, hx]
          exact .str _)
    rw [List.length_map] at key
    exact key
theorem ext_ok : ExtOk X := by
  intro f args v h I w xs hold hg ha
  change extF f args = some v at h
  unfold extF at h
  split at h
  · rename_i hf
    subst hf
    split at h
    · rename_i s
      split at h
      · rename_i hs
        injection h with h
        subst h
        obtain ⟨x, y, rfl, hx, hy⟩ := all2_two ha
        cases hx
        cases hy
        obtain ⟨k, hk, _⟩ := hg.1 1 (by simp [X])
        exact split_rel hold hk hs
      · simp at h
    · simp at h
  · simp at h
end Go.Proofs.YtpocekfifokndaaDoor
namespace Go.Ev
open Go.Deep
def tiled (P : Program) : Nat → List Field → Option Nat
  | off, [] => some off
  | off, f :: fs => if f.offset = off then tiled P (off + P.cellsOf f.type) fs else none
def plainT (P : Program) : Nat → TypeId → Bool
  | 0, _ => false
  | n + 1, t =>
    match P.underlying t with
    | some .bool | some (.int _) | some .string => true
    | some (.slice e) => plainT P n e && decide (0 < P.cellsOf e)
    | some (.struct fs) => fs.toList.all (fun f => plainT P n f.type) && decide (tiled P 0 fs.toList = some (P.cellsOf t))
    | some (.array k e) => plainT P n e && decide (k * P.cellsOf e = P.cellsOf t)
    | _ => false
def Typ (P : Program) : Nat → TypeId → V → Prop
  | 0, _, _ => False
  | n + 1, t, v =>
    match P.underlying t with
    | some .bool => ∃ b, v = .bool b
    | some (.int k) => ∃ i, v = .int k i ∧ (Lit.int k i).wf = true
    | some .string => ∃ s, v = .str s ∧ s.length ≤ Go.maxLen
    | some (.slice e) => ∃ es, v = .sl es ∧ es.length ≤ Go.maxLen ∧ ∀ u ∈ es, Typ P n e u
    | some (.struct fs) => ∃ us : List V, v = .agg (us.flatMap V.cells) ∧ us.length = fs.size ∧ ∀ (i : Nat) (f : Field) (u : V), fs[i]? = some f → us[i]? = some u → Typ P n f.type u
    | some (.array k e) => ∃ us : List V, v = .agg (us.flatMap V.cells) ∧ us.length = k ∧ ∀ u ∈ us, Typ P n e u
    | _ => False
theorem width_cells (v : V) : v.cells.length = v.width := by cases v <;> rfl
def CellR (w : World) (u : V) (x : Value) : Prop := RelP (allI w) w u x ∧ x.oneCell' = true
section
variable {H : Type} {enc : TypeId × Value → H} {P : Program} {w : World} {sp : Nat → Bool} {hd : Bool}
theorem cells?_get {a : Addr} {n : Nat} {cs : List Value} (h : w.cells? 0 a n = some cs) : cs.length = n ∧ ∀ (i : Nat) (x : Value), cs[i]? = some x → w.cell? (a.add i) = some x := by
  obtain ⟨_, h1, h2⟩ := World.cells?_some h
  refine ⟨h1, fun i x hx => ?_⟩
  rw [h2 i (by rw [← h1]; exact (List.getElem?_eq_some_iff.1 hx).1), hx]
theorem cell?_spot {a : Addr} {x : Value} (h : w.cell? a = some x) : a.spot = none ∧ a.block < w.heap.size := by
  unfold World.cell? at h
  split at h
  · rename_i hb
    split at h
    · simp at h
    · rename_i hs
      refine ⟨by cases hq : a.spot with | none => rfl | some _ => rw [hq] at hs; simp at hs, ?_⟩
      exact (Array.getElem?_eq_some_iff.1 hb).1
  · simp at h
theorem typ_width {n : Nat} {t : TypeId} {v : V} (h : Typ P n t v) : v.transit = false ∧ (∀ vs, v ≠ .tup vs) := by
  cases n with
  | zero => exact h.elim
  | succ n =>
    simp only [Typ] at h
    split at h
    · obtain ⟨b, rfl⟩ := h; exact ⟨rfl, fun _ e => by cases e⟩
    · obtain ⟨b, rfl, _⟩ := h; exact ⟨rfl, fun _ e => by cases e⟩
    · obtain ⟨b, rfl, _⟩ := h; exact ⟨rfl, fun _ e => by cases e⟩
    · obtain ⟨b, rfl, _⟩ := h; exact ⟨rfl, fun _ e => by cases e⟩
    · obtain ⟨b, rfl, _⟩ := h; exact ⟨rfl, fun _ e => by cases e⟩
    · obtain ⟨b, rfl, _⟩ := h; exact ⟨rfl, fun _ e => by cases e⟩
    · exact h.elim
theorem all2_one {R : V → Value → Prop} {u : V} {x : Value} (h : R u x) : All2 R [u] [x] := All2.cons h All2.nil
theorem fields_all {n m : Nat} {cs : List Value}
    (ih : ∀ {fuel : Nat} {t : TypeId} {cs : List Value} {x : DataW H × List MemPlace}, plainT P n t = true → DataW.trod enc P w 0 sp hd fuel t cs = some x → ∃ v, Typ P n t v ∧ All2 (CellR w) v.cells cs) :
    ∀ (l : List Field) (off : Nat), tiled P off l = some cs.length → l.all (fun f => plainT P n f.type) = true →
      (∀ (i : Nat) (f : Field), l[i]? = some f → ∃ x, DataW.trod enc P w 0 sp hd m f.type ((cs.drop f.offset).take (P.cellsOf f.type)) = some x) →
      ∃ us : List V, us.length = l.length ∧ (∀ (i : Nat) (f : Field) (u : V), l[i]? = some f → us[i]? = some u → Typ P n f.type u) ∧ All2 (CellR w) (us.flatMap V.cells) (cs.drop off)
  | [], off, ht, _, _ => by
    simp only [tiled, Option.some.injEq] at ht
    refine ⟨[], rfl, fun i f u h => by simp at h, ?_⟩
    rw [ht, List.drop_length]; exact All2.nil
  | f :: l, off, ht, hp, hx => by
    simp only [tiled] at ht
    split at ht
    · rename_i ho
      simp only [List.all_cons, Bool.and_eq_true] at hp
      obtain ⟨x, hx0⟩ := hx 0 f rfl
      obtain ⟨v, h1, h2⟩ := ih hp.1 hx0
      obtain ⟨us, g1, g2, g3⟩ := fields_all ih l (off + P.cellsOf f.type) ht hp.2 (fun i g hg => hx (i + 1) g (by simpa using hg))
      refine ⟨v :: us, by simp [g1], ?_, ?_⟩
      · intro i g u hg hu
        cases i with
        | zero => simp at hg hu; subst hg; subst hu; exact h1
        | succ i => exact g2 i g u (by simpa using hg) (by simpa using hu)
      · rw [List.flatMap_cons]
        have e : cs.drop off = (cs.drop f.offset).take (P.cellsOf f.type) ++ cs.drop (off + P.cellsOf f.type) := by
          rw [ho, ← List.drop_drop, List.take_append_drop]
        rw [e]
        exact All2.append h2 g3
    · simp at ht
theorem elems_all {n m z : Nat} {e : TypeId} {cs : List Value} (hz : P.cellsOf e = z) (he : plainT P n e = true)
    (ih : ∀ {fuel : Nat} {t : TypeId} {cs : List Value} {x : DataW H × List MemPlace}, plainT P n t = true → DataW.trod enc P w 0 sp hd fuel t cs = some x → ∃ v, Typ P n t v ∧ All2 (CellR w) v.cells cs) :
    ∀ (k i : Nat), (i + k) * z = cs.length → (∀ j, j < i + k → ∃ x, DataW.trod enc P w 0 sp hd m e ((cs.drop (j * z)).take z) = some x) →
      ∃ us : List V, us.length = k ∧ (∀ u ∈ us, Typ P n e u) ∧ All2 (CellR w) (us.flatMap V.cells) (cs.drop (i * z))
  | 0, i, hc, _ => by
    refine ⟨[], rfl, fun u h => by simp at h, ?_⟩
    rw [Nat.add_zero] at hc
    rw [hc, List.drop_length]; exact All2.nil
  | k + 1, i, hc, hx => by
    obtain ⟨x, hx0⟩ := hx i (by omega)
    obtain ⟨v, h1, h2⟩ := ih he hx0
    obtain ⟨us, g1, g2, g3⟩ := elems_all hz he ih k (i + 1) (by rw [← hc]; congr 1; omega) (fun j hj => hx j (by omega))
    refine ⟨v :: us, by simp [g1], ?_, ?_⟩
    · intro u hu
      rcases List.mem_cons.1 hu with rfl | hu
      · exact h1
      · exact g2 u hu
    · rw [List.flatMap_cons]
      have e : cs.drop (i * z) = (cs.drop (i * z)).take z ++ cs.drop ((i + 1) * z) := by
        rw [Nat.succ_mul, ← List.drop_drop, List.take_append_drop]
      rw [e]
      exact All2.append h2 g3
theorem open_plain : ∀ (n : Nat) {fuel : Nat} {t : TypeId} {cs : List Value} {x : DataW H × List MemPlace}, plainT P n t = true → DataW.trod enc P w 0 sp hd fuel t cs = some x →
    ∃ v, Typ P n t v ∧ All2 (CellR w) v.cells cs
  | 0, _, _, _, _, hp, _ => by simp [plainT] at hp
  | n + 1, fuel, t, cs, x, hp, h => by
    have ih := @open_plain n
    simp only [plainT] at hp
    simp only [Typ]
    split at hp
    · rename_i ht
      obtain ⟨b, rfl, _⟩ := DataW.trod_bool ht h
      exact ⟨.bool b, ⟨b, rfl⟩, all2_one ⟨.bool b, rfl⟩⟩
    · rename_i k ht
      obtain ⟨i, rfl, _, hw⟩ := DataW.trod_int ht h
      exact ⟨.int k i, ⟨i, rfl, hw⟩, all2_one ⟨.int k i, rfl⟩⟩
    · rename_i ht
      obtain ⟨s, rfl, _, hl⟩ := DataW.trod_string ht h
      refine ⟨.str s.data.toList, ⟨_, rfl, by rw [Array.length_toList]; exact hl⟩, all2_one ⟨?_, rfl⟩⟩
      have := RelP.str (I := allI w) (w := w) s.data.toList
      simpa using this
    · rename_i e ht
      simp only [Bool.and_eq_true, decide_eq_true_eq] at hp
      rcases open_slice ht h with ⟨rfl, _⟩ | ⟨a, len, cap, m, k, D, Pl, rfl, _, hlc, hcm, hm, _, hel⟩
      · exact ⟨.sl [], ⟨[], rfl, Nat.zero_le _, fun u hu => by simp at hu⟩, all2_one ⟨.slNil, rfl⟩⟩
      · have hlm : len ≤ m := by rw [hm]; split <;> omega
        have hex : ∀ i, i < len → ∃ p : V × List Value, w.cells? 0 (a.add (i * P.cellsOf e)) (P.cellsOf e) = some p.2 ∧ Typ P n e p.1 ∧ All2 (CellR w) p.1.cells p.2 := fun i hi => by
          obtain ⟨cs', h1, h2⟩ := hel i (by omega)
          obtain ⟨v, h3, h4⟩ := ih hp.1 h2
          exact ⟨(v, cs'), h1, h3, h4⟩
        haveI : Inhabited V := ⟨.undef⟩
        obtain ⟨f, hf⟩ := choose_lt hex
        refine ⟨.sl ((List.range len).map fun i => (f i).1), ?_, ?_⟩
        · refine ⟨_, rfl, by simp; omega, fun u hu => ?_⟩
          obtain ⟨i, hi, rfl⟩ := List.mem_map.1 hu
          exact (hf i (List.mem_range.1 hi)).2.1
        · refine all2_one ⟨?_, rfl⟩
          cases len with
          | zero => exact .slNil
          | succ len =>
            have hspot : a.spot = none := by
              obtain ⟨h1, h2, h3⟩ := hf 0 (Nat.succ_pos _)
              obtain ⟨h4, h5⟩ := cells?_get h1
              obtain ⟨y, hy⟩ : ∃ y, (f 0).2[0]? = some y := ⟨(f 0).2[0]'(by omega), by simp⟩
              have := cell?_spot (h5 0 y hy)
              simpa [Addr.add] using this.1
            obtain ⟨b, o, spot⟩ := a
            dsimp only at hspot
            subst hspot
            have hget : ∀ (j : Nat) (u : V), ((List.range (len + 1)).map fun i => (f i).1)[j]? = some u → j < len + 1 ∧ u = (f j).1 := fun j u hu => by
              rw [List.getElem?_map] at hu
              by_cases hj : j < len + 1
              · rw [List.getElem?_range hj] at hu
                simp only [Option.map_some, Option.some.injEq] at hu
                exact ⟨hj, hu.symm⟩
              · rw [List.getElem?_eq_none (by simp; omega)] at hu
                simp at hu
            have hcell : ∀ (j : Nat) (u : V) (c : Nat) (v : V), ((List.range (len + 1)).map fun i => (f i).1)[j]? = some u → u.cells[c]? = some v → ∃ y, (f j).2[c]? = some y ∧ w.cell? ⟨b, o + j * P.cellsOf e + c, none⟩ = some y ∧ CellR w v y := fun j u c v hu hv => by
              obtain ⟨hj, rfl⟩ := hget j u hu
              obtain ⟨h1, h2, h3⟩ := hf j hj
              obtain ⟨h4, h5⟩ := cells?_get h1
              obtain ⟨y, hy, hr⟩ := h3.get hv
              refine ⟨y, hy, ?_, hr⟩
              have := h5 c y hy
              rw [add_add] at this
              have e : (⟨b, o, none⟩ : Addr).add (j * P.cellsOf e + c) = ⟨b, o + j * P.cellsOf e + c, none⟩ := by
                unfold Addr.add
                split
                · rename_i h0; rw [Nat.add_assoc, h0]; rfl
                · rw [Nat.add_assoc]
              rw [e] at this
              exact this
            have key := RelP.sl (I := allI w) (w := w) (es := (List.range (len + 1)).map fun i => (f i).1) (b := b) (o := o) (z := P.cellsOf e) (cap := cap)
              (fun j c => ((f j).2[c]?).getD .nilIface) (by simp; omega) (fun j u hu => by
                obtain ⟨hj, rfl⟩ := hget j u hu
                obtain ⟨h1, h2, h3⟩ := hf j hj
                rw [← width_cells, h3.1, (cells?_get h1).1])
              (fun j u c v hu hv => by
                obtain ⟨y, hy, hc, hr⟩ := hcell j u c v hu hv
                rw [hy]
                exact ⟨hc, (cell?_spot hc).2, hr.2⟩)
              (fun j u c v hu hv => by
                obtain ⟨y, hy, hc, hr⟩ := hcell j u c v hu hv
                rw [hy]
                exact hr.1)
            rw [List.length_map, List.length_range] at key
            exact key
    · rename_i fs ht
      simp only [Bool.and_eq_true, decide_eq_true_eq] at hp
      obtain ⟨xs, m, rfl, _, hl, hxl, hx⟩ := DataW.trod_struct ht h
      obtain ⟨us, g1, g2, g3⟩ := fields_all (hd := hd) (sp := sp) (enc := enc) ih fs.toList 0 (by rw [hl]; exact hp.2) hp.1 (fun i f hf => by
        have hf' : fs[i]? = some f := by simpa using hf
        have hi : i < xs.length := by rw [hxl]; exact (Array.getElem?_eq_some_iff.1 hf').1
        exact ⟨xs[i], by rw [hx i f hf', List.getElem?_eq_getElem hi]⟩)
      refine ⟨.agg (us.flatMap V.cells), ?_, g3⟩
      exact ⟨us, rfl, by simpa using g1, fun i f u hf hu => g2 i f u (by simpa using hf) hu⟩
    · rename_i k e ht
      simp only [Bool.and_eq_true, decide_eq_true_eq] at hp
      obtain ⟨xs, m, rfl, _, hl, hxl, hx⟩ := DataW.trod_array ht h
      obtain ⟨us, g1, g2, g3⟩ := elems_all (hd := hd) (sp := sp) (enc := enc) (m := m) rfl hp.1 ih k 0 (by rw [Nat.zero_add, hl]; exact hp.2) (fun j hj => by
        have hj' : j < k := by omega
        exact ⟨xs[j]'(by omega), by rw [hx j hj', List.getElem?_eq_getElem]⟩)
      refine ⟨.agg (us.flatMap V.cells), ?_, by rw [Nat.zero_mul, List.drop_zero] at g3; exact g3⟩
      exact ⟨us, rfl, g1, g2⟩
    · simp at hp
end
end Go.Ev
namespace Go.Ev
open Go.ChangeShapes Go.WideShapes Go.ChangeAt Go.RowKit Go.Deep
theorem below_of {I I' : Imm} {w w' : World} {φ' : Phi} (h : Ext I w (fun _ => none) I' w' φ') : Below w.heap.size w w' :=
  ⟨h.os, h.tape, h.output, h.hsize, fun b hb => h.block b hb (fun r l hl => by simp at hl)⟩
theorem calls_true {X : Env} (hmix : X.P.follows .mixedOrders = true) (hext : ExtOk X) {f : FuncId} {args : List V} {b : Bool} (hr : Runs X f args (.ret (.bool b)))
    {I : Imm} {w : World} {xs : List Value} (hold : ∀ b o, I b o → b < w.heap.size) (hg : GlobOk X I w) (ha : All2 (RelP I w) args xs) :
    Calls X.P f ⟨xs⟩ w fun e w' => e = .returned (.bool b) ∧ Grown w w' ∧ Below w.heap.size w w' := by
  obtain ⟨out, k, e⟩ := hr
  refine Calls.mono (calls_of hmix hext e hold hg ha) (fun e w' h => ?_)
  obtain ⟨x, rfl, hgr, I', U', hx, hR⟩ := h
  refine ⟨?_, hgr, below_of hx⟩
  have := plain_rel (X := X) (I' := I') (w' := w') (φ' := fun _ => none) hR rfl
  rw [rel_bool this]
section
variable {H : Type} {enc : TypeId × Value → H} {P : Program} {w : World} {sp : Nat → Bool} {hd : Bool}
theorem arg_rel {n base : Nat} {t : TypeId} {v : Value} {d : DataW H} {ps : List MemPlace} (hp : plainT P n t = true) (hok : Value.okWide P w .any base t v) (h : DataW.Trod enc P w 0 sp hd t v d ps) :
    ∃ u, Typ P n t u ∧ RelP (allI w) w u v := by
  obtain ⟨fuel, hf⟩ := h
  obtain ⟨u, h1, h2⟩ := open_plain n hp hf
  refine ⟨u, h1, ?_⟩
  cases n with
  | zero => exact h1.elim
  | succ n =>
    have fin : ∀ x : Value, v = x → (u.cells = [u]) → v.cells.toList = [x] → RelP (allI w) w u v := by
      intro x hv hu hx
      rw [hu, hx] at h2
      rw [hv]; exact (h2.2 0 _ _ rfl rfl).1
    have finA : ∀ cs : Array Value, ∀ us, v = .agg cs → u = .agg us → RelP (allI w) w u v := by
      rintro cs us rfl rfl
      have h3 : All2 (CellR w) us cs.toList := h2
      exact .agg h3.1 (fun i a b ha hb => (h3.2 i a b ha hb).1) (fun x hx => by
        obtain ⟨i, hi, rfl⟩ := List.mem_iff_getElem.1 hx
        obtain ⟨y, hy⟩ : ∃ y, us[i]? = some y := ⟨us[i]'(by rw [h3.1]; exact hi), by simp⟩
        exact (h3.2 i y _ hy (List.getElem?_eq_getElem hi)).2)
    simp only [Typ] at h1
    split at h1
    · rename_i ht
      obtain ⟨b, rfl⟩ := okWide_bool ht hok
      obtain ⟨c, rfl⟩ := h1
      exact fin _ rfl rfl rfl
    · rename_i k ht
      obtain ⟨b, rfl⟩ := okWide_int ht hok
      obtain ⟨c, rfl, _⟩ := h1
      exact fin _ rfl rfl rfl
    · rename_i ht
      obtain ⟨b, rfl⟩ := okWide_string ht hok
      obtain ⟨c, rfl, _⟩ := h1
      exact fin _ rfl rfl rfl
    · rename_i e ht
      obtain ⟨a, l, c, rfl⟩ := okWide_slice ht hok
      obtain ⟨c, rfl, _⟩ := h1
      exact fin _ rfl rfl rfl
    · rename_i fs ht
      obtain ⟨us, rfl, _⟩ := h1
      simp only [Value.okWide, ht] at hok
      obtain ⟨cs, rfl, _⟩ := hok
      exact finA cs _ rfl rfl
    · rename_i k e ht
      obtain ⟨us, rfl, _⟩ := h1
      simp only [Value.okWide, ht] at hok
      obtain ⟨cs, rfl, _⟩ := hok
      exact finA cs _ rfl rfl
    · exact h1.elim
def Typs (P : Program) (n : Nat) : List TypeId → List V → Prop
  | [], [] => True
  | t :: ts, u :: us => Typ P n t u ∧ Typs P n ts us
  | _, _ => False
theorem args_rel {n base : Nat} : ∀ {ts : List TypeId} {vs : List Value} {ds : List (DataW H)} {ps : List MemPlace}, DataW.TrodAll enc P w 0 sp hd ts vs ds ps → ts.all (fun t => plainT P n t) = true →
    (∀ (j : Nat) t v, ts[j]? = some t → vs[j]? = some v → Value.okWide P w .any base t v) → ∃ us, Typs P n ts us ∧ All2 (RelP (allI w) w) us vs ∧ ds.length = ts.length
  | [], vs, ds, ps, h, _, _ => by
    obtain ⟨rfl, rfl, _⟩ := trodAll_nil h
    exact ⟨[], trivial, All2.nil, rfl⟩
  | t :: ts, vs, ds, ps, h, hp, hok => by
    obtain ⟨v, vs', d, ds', p, q, rfl, rfl, _, h1, h2⟩ := trodAll_cons h
    simp only [List.all_cons, Bool.and_eq_true] at hp
    obtain ⟨u, hu1, hu2⟩ := arg_rel hp.1 (hok 0 t v rfl rfl) h1
    obtain ⟨us, hs1, hs2, hs3⟩ := args_rel h2 hp.2 (fun j t v ht hv => hok (j + 1) t v (by simpa using ht) (by simpa using hv))
    exact ⟨u :: us, ⟨hu1, hs1⟩, All2.cons hu2 hs2, by simp [hs3]⟩
theorem args_stay {w' : World} {spr : Nat → Bool} (hl : laidOutB P = true) (hb : Below w.heap.size w w') : ∀ {ts : List TypeId} {vs : List Value} {ds : List (DataW H)} {ps : List MemPlace},
    DataW.TrodAll enc P w 0 (fun _ => true) true ts vs ds ps → ts.all (fun t => P.readableRec t && decide (t < P.types.size)) = true → (∀ x ∈ ps, x.block < w.heap.size) → (∀ x ∈ ps, spr x.block = true) →
    DataW.TrodAll enc P w' 0 spr true ts vs ds ps
  | [], vs, ds, ps, h, _, _, _ => by
    obtain ⟨rfl, rfl, rfl⟩ := trodAll_nil h
    exact trodAll_mk0
  | t :: ts, vs, ds, ps, h, hp, hlt, hsp => by
    obtain ⟨v, vs', d, ds', p, q, rfl, rfl, rfl, h1, h2⟩ := trodAll_cons h
    simp only [List.all_cons, Bool.and_eq_true, decide_eq_true_eq] at hp
    exact trodAll_cons_mk (WideElems.Trod_stays hl hp.1.1 hp.1.2 h1 (fun x hx => hb.same (hlt x (List.mem_append_left _ hx))) (fun x hx => hsp x (List.mem_append_left _ hx)))
      (args_stay hl hb h2 (by simpa using hp.2) (fun x hx => hlt x (List.mem_append_right _ hx)) (fun x hx => hsp x (List.mem_append_right _ hx)))
end
theorem law_contract {X : Env} (hmix : X.P.follows .mixedOrders = true) (hext : ExtOk X) (hglob : ∀ g, X.glob g = none) (hints : ∀ W : World, W.ShapedOpen X.P → ∀ g ∈ X.ints, ∃ k : Int, W.cell? ⟨g, 0, none⟩ = some (.int .i64 k))
    {f : FuncId} {fn : Func} {n : Nat} (hts : fn.params.toList.all (fun t => plainT X.P n t) = true) (hrd : fn.params.toList.all (fun t => X.P.readableRec t && decide (t < X.P.types.size)) = true) (hl : laidOutB X.P = true)
    {tb : TypeId} (hres : fn.resultTypes = #[tb]) (htb : X.P.underlying tb = some .bool) {s : ChangeSpec} (hv : s.vars = [])
    (hs : ∀ (H : Type) (ds : List (DataW H)), ds.length = fn.params.toList.length → s.fn H ds = { results := [.lit (.bool true)], args := ds })
    (hruns : ∀ us, Typs X.P n fn.params.toList us → Runs X f us (.ret (.bool true)))
    (H : Type) (enc : TypeId × Value → H) (W : World) (base : Nat) (args : Array Value) (ds gs : List (DataW H)) (before : List MemPlace)
    (hval : ∀ (j : Nat) t v, fn.params[j]? = some t → args[j]? = some v → Value.okWide X.P W .any base t v)
    (hW : DataW.Whole enc X.P fn.params.toList s.vars false W args.toList ds gs before) (hsh : W.ShapedOpen X.P) :
    Calls X.P f args W fun e W' => ∃ v, e = .returned v ∧ s.post enc X.P fn false true false false W args v W' := by
  have hW' := hW
  obtain ⟨p, q, hA, hV, rfl, hfz, hnd⟩ := hW
  rw [hv] at hV
  obtain ⟨rfl, rfl⟩ := trodVars_none hV
  have hlt : ∀ x ∈ p, x.block < W.heap.size := fun x hx => by simpa using hW'.lt x (List.mem_append_left _ hx)
  obtain ⟨us, h1, h2, h3⟩ := args_rel (base := base) hA hts (fun j t v ht hv' => hval j t v (by simpa using ht) (by simpa using hv'))
  have hg : GlobOk X (allI W) W := ⟨fun g hg => by
    obtain ⟨k, hk⟩ := hints W hsh g hg
    exact ⟨k, hk, (cell?_spot hk).2⟩, fun g v ty h => by rw [hglob g] at h; simp at h⟩
  have hc := calls_true hmix hext (hruns us h1) (I := allI W) (w := W) (xs := args.toList) (fun b o h => h) hg h2
  refine Calls.mono hc fun e W' ⟨he, hgr, hb⟩ => ?_
  subst he
  have hsp := hs H ds h3
  refine ⟨_, rfl, post_of_same (pa := p) (pv := []) hW' ?_ ?_ ?_ rfl (hgr.frame _) hgr.2.1 (ok_one hres rfl (okWide_bool_mk htb _))⟩
  · intro b spr hdd
    rw [List.append_nil, hsp, hres]
    exact trodAll_cons_mk (shut_bool htb _) trodAll_mk0
  · intro spr hspr
    rw [List.append_nil, hsp]
    exact args_stay hl hb hA hrd hlt (fun x hx => hspr x (by simpa using hx))
  · intro spr _
    rw [hv, List.append_nil, hsp]
    rfl
end Go.Ev
namespace Go.Proofs.YtpocekfifokndaaDoor
open Go Go.Ev Go.Pl
open Go.ChangeShapes Go.WideShapes Go.ChangeAt Go.RowKit
theorem own : ownKnob Tryd.prog.godebug = none := by kernel_rfl
theorem mixed : Tryd.prog.follows .mixedOrders = true := by kernel_rfl
theorem laidOut : laidOutB Tryd.prog = true := by kernel_rfl
theorem ints_ok (W : World) (h : W.ShapedOpen X.P) : ∀ g ∈ X.ints, ∃ k : Int, W.cell? ⟨g, 0, none⟩ = some (.int .i64 k) := by
  intro g hg
  have e : g = 1 := by simpa [X] using hg
  subst e
  exact Go.Proofs.cell_of_shapedOpen_int (P := Tryd.prog) (zero := #[.int .i64 0]) (t := 3) h (of_decide_eq_true (by kernel_rfl)) (by kernel_rfl) rfl (by kernel_rfl) (by kernel_rfl) Tryd.underlying3
def cellsD : Nat → DataW Unit → List Value
  | _ + 1, .lit (.int k z) => [.int k z]
  | n + 1, .agg l => l.flatMap (cellsD n)
  | _, _ => []
def layAt (g : Nat) (d : DataW Unit) (h : Array Obj) : Array Obj := h.modify g fun
  | .cells _ t frozen => .cells (cellsD 4 d).toArray t frozen
  | o => o
noncomputable def laidWorld (os : Os) : World :=
  { World.holding Tryd.prog os ⟨#[], #[], []⟩ with heap := layAt 0 Rows.laid_bulla_metro_zero (layAt 2 Rows.laid_internal_strconv_uint64pow10 (layAt 3 Rows.laid_unicode_utf8_first (layAt 4 Rows.laid_unicode_utf8_acceptRanges
      (layAt 5 Rows.laid_math_bits_deBruijn32tab (layAt 6 Rows.laid_math_bits_deBruijn64tab (World.holding Tryd.prog os ⟨#[], #[], []⟩).heap))))) }
set_option maxRecDepth 100000
theorem typ3 {n : Nat} {u : V} (h : Typ X.P (n + 1) 3 u) : ∃ i : Int, u = vi i ∧ -9223372036854775808 ≤ i ∧ i ≤ 9223372036854775807 := by
  simp only [Typ, X_P, Tryd.underlying3] at h
  obtain ⟨i, rfl, hi⟩ := h
  refine ⟨i, rfl, ?_⟩
  simpa [Lit.wf, IntKind.min, IntKind.max, IntKind.signed, IntKind.bits] using hi
theorem typ9 {n : Nat} {u : V} (h : Typ X.P (n + 1) 9 u) : ∃ s : List UInt8, u = .str s ∧ s.length ≤ Go.maxLen := by
  simp only [Typ, X_P, Tryd.underlying9] at h
  exact h
theorem typ_ints {n : Nat} : ∀ {es : List V}, (∀ u ∈ es, Typ X.P (n + 1) 3 u) → ∃ a : List Int, es = ints a ∧ ∀ i ∈ a, -9223372036854775808 ≤ i ∧ i ≤ 9223372036854775807
  | [], _ => ⟨[], rfl, fun i h => by simp at h⟩
  | u :: es, h => by
    obtain ⟨i, rfl, hi⟩ := typ3 (h u (by simp))
    obtain ⟨a, rfl, ha⟩ := typ_ints (es := es) (fun u hu => h u (List.mem_cons_of_mem _ hu))
    refine ⟨i :: a, rfl, fun j hj => ?_⟩
    rcases List.mem_cons.1 hj with rfl | hj
    · exact hi
    · exact ha j hj
theorem typ22 {n : Nat} {u : V} (h : Typ X.P (n + 2) 22 u) : ∃ a : List Int, u = .sl (ints a) ∧ a.length ≤ Go.maxLen := by
  rw [Typ] at h
  simp only [X_P, Tryd.underlying22] at h
  obtain ⟨es, rfl, hl, hes⟩ := h
  obtain ⟨a, rfl, _⟩ := typ_ints hes
  exact ⟨a, rfl, by simpa [ints] using hl⟩
end Go.Proofs.YtpocekfifokndaaDoor
namespace Go.Proofs.YtpocekfifokndaaDoor
open Go
set_option maxRecDepth 100000
theorem j2 : (laidOutB Tryd.prog) = true := by kernel_rfl
theorem j3 : (mapsRowed Tryd.prog) = true := by kernel_rfl
theorem j7 : ((Tryd.prog.stops == [])) = true := by kernel_rfl
theorem j9 : ((Tryd.prog.stopKnobs == [])) = true := by kernel_rfl
theorem j23 : ((Rows.placeMulsRow.plainKeys == Tryd.prog.plainKeys)) = true := by kernel_rfl
theorem j25 : (Tryd.prog.stopsHeard) = true := by kernel_rfl
theorem m2 : true = Tryd.pinned.checked.prog.looks [] := by kernel_rfl
end Go.Proofs.YtpocekfifokndaaDoor
