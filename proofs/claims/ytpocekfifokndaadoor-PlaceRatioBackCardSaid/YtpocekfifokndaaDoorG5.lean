/- Part 5 of the proof: an evaluator of the program, proved sound against the model, and what the functions of the program compute. No condition but those each theorem states. -/
import Derived.Test.YtpocekfifokndaaDoorG4
import Derived.Orders
import Derived.WalkKit
import Derived.Shelf.LaysM
import Derived.Shelf.Strings.Split
import Derived.Test.YtpocekfifokndaaDoorProg
import Derived.Shelf.Strings.OnBuilder
import Derived.Test.YtpocekfifokndaaDoorG1
import Derived.Lib.SplitLaws
import Derived.Deep.Slices
import Derived.Carry
import Derived.OpenShut
import Derived.ProofKit
import Derived.JoinedCond
import Derived.Deep.DeepHandedRow
import Derived.Test.YtpocekfifokndaaDoorCards
import Derived.Test.YtpocekfifokndaaDoorTie
import Derived.Test.YtpocekfifokndaaDoorRows
import Derived.KernelRfl
import Derived.JoinedOf
import Derived.SevenTiedAt
set_option linter.unusedSimpArgs false
set_option linter.unusedVariables false
namespace Go.Ev
def depStep (acc : List (List Nat)) (o : Oper) : List Nat := o.after.toList.foldl (fun s e => if Region.binds .any e then e.on :: (acc.getD e.on [] ++ s) else s) []
theorem deps_eq (ops : List Oper) : deps ops = ops.foldl (fun acc o => acc ++ [depStep acc o]) [] := rfl
theorem mem_depStep {acc : List (List Nat)} {o : Oper} {x : Nat} (h : x ∈ depStep acc o) : ∃ e ∈ o.after.toList, Region.binds .any e = true ∧ (x = e.on ∨ x ∈ acc.getD e.on []) := by
  have key : ∀ (l : List Edge) (s : List Nat), x ∈ l.foldl (fun s e => if Region.binds .any e then e.on :: (acc.getD e.on [] ++ s) else s) s → x ∈ s ∨ ∃ e ∈ l, Region.binds .any e = true ∧ (x = e.on ∨ x ∈ acc.getD e.on []) := by
    intro l
    induction l with
    | nil => intro s h; exact .inl h
    | cons e l ih =>
      intro s h
      rw [List.foldl_cons] at h
      rcases ih _ h with h1 | ⟨e', he', h2⟩
      · split at h1
        · rename_i hb
          rcases List.mem_cons.1 h1 with h3 | h3
          · exact .inr ⟨e, by simp, hb, .inl h3⟩
          · rcases List.mem_append.1 h3 with h4 | h4
            · exact .inr ⟨e, by simp, hb, .inr h4⟩
            · exact .inl h4
        · exact .inl h1
      · exact .inr ⟨e', by simp [he'], h2⟩
  rcases key _ _ h with h | h
  · simp at h
  · exact h
theorem foldl_deps (l : List Oper) : ∀ (acc : List (List Nat)), (l.foldl (fun acc o => acc ++ [depStep acc o]) acc).length = acc.length + l.length ∧
    (∀ i, i < acc.length → (l.foldl (fun acc o => acc ++ [depStep acc o]) acc)[i]? = acc[i]?) := by
  induction l with
  | nil => intro acc; exact ⟨rfl, fun _ _ => rfl⟩
  | cons o l ih =>
    intro acc
    obtain ⟨h1, h2⟩ := ih (acc ++ [depStep acc o])
    refine ⟨by rw [List.foldl_cons, h1]; simp; omega, fun i hi => ?_⟩
    rw [List.foldl_cons, h2 i (by simp; omega), List.getElem?_append_left hi]
theorem deps_get {ops : List Oper} {i : Nat} {o : Oper} (h : ops[i]? = some o) : (deps ops)[i]? = some (depStep (deps (ops.take i)) o) := by
  have hi : i < ops.length := by
    rcases Nat.lt_or_ge i ops.length with h' | h'
    · exact h'
    · simp [List.getElem?_eq_none h'] at h
  have hsplit : ops = ops.take i ++ o :: ops.drop (i + 1) := by
    have : ops.drop i = o :: ops.drop (i + 1) := by
      rw [List.drop_eq_getElem_cons hi]
      rw [List.getElem?_eq_getElem hi] at h
      rw [Option.some.inj h]
    rw [← this, List.take_append_drop]
  have hlen : (deps (ops.take i)).length = i := by
    rw [deps_eq, (foldl_deps _ _).1]; simp; omega
  have e : deps ops = (ops.drop (i + 1)).foldl (fun acc o => acc ++ [depStep acc o]) (deps (ops.take i) ++ [depStep (deps (ops.take i)) o]) := by
    conv => lhs; rw [hsplit, deps_eq, List.foldl_append, List.foldl_cons]
    rfl
  rw [e, (foldl_deps _ _).2 i (by simp [hlen]), List.getElem?_append_right (by omega), hlen]
  simp
theorem deps_take {ops : List Oper} {i j : Nat} (hj : j < i) : (deps (ops.take i)).getD j [] = (deps ops).getD j [] := by
  rcases Nat.lt_or_ge j ops.length with h | h
  · have h1 : ops[j]? = some ops[j] := by simp [h]
    have h2 : (ops.take i)[j]? = some ops[j] := by rw [List.getElem?_take, if_pos hj, h1]
    have e1 := deps_get h1
    have e2 := deps_get h2
    have : (ops.take i).take j = ops.take j := by rw [List.take_take, Nat.min_eq_left (by omega)]
    rw [this] at e2
    simp only [List.getD_eq_getElem?_getD, e1, e2]
  · have l1 : (deps ops).length = ops.length := by rw [deps_eq, (foldl_deps _ _).1]; simp
    have l2 : (deps (ops.take i)).length ≤ ops.length := by rw [deps_eq, (foldl_deps _ _).1]; simp; omega
    simp only [List.getD_eq_getElem?_getD]
    rw [List.getElem?_eq_none (by omega), List.getElem?_eq_none (by omega)]
theorem mem_deps {ops : List Oper} {i x : Nat} (h : x ∈ (deps ops).getD i []) : ∃ o, ops[i]? = some o ∧ ∃ e ∈ o.after.toList, Region.binds .any e = true ∧ (x = e.on ∨ (e.on < i ∧ x ∈ (deps ops).getD e.on [])) := by
  have l1 : (deps ops).length = ops.length := by rw [deps_eq, (foldl_deps _ _).1]; simp
  rcases Nat.lt_or_ge i ops.length with hi | hi
  · have h1 : ops[i]? = some ops[i] := by simp [hi]
    refine ⟨ops[i], h1, ?_⟩
    rw [List.getD_eq_getElem?_getD, deps_get h1] at h
    obtain ⟨e, he, hb, hx⟩ := mem_depStep h
    refine ⟨e, he, hb, ?_⟩
    rcases hx with hx | hx
    · exact .inl hx
    · right
      rcases Nat.lt_or_ge e.on i with hl | hl
      · exact ⟨hl, by rw [deps_take hl] at hx; exact hx⟩
      · have l2 : (deps (ops.take i)).length = i := by rw [deps_eq, (foldl_deps _ _).1]; simp; omega
        rw [List.getD_eq_getElem?_getD, List.getElem?_eq_none (by omega)] at hx
        simp at hx
  · rw [List.getD_eq_getElem?_getD, List.getElem?_eq_none (by omega)] at h
    simp at h
section
variable {X : Env} {call : CallF} {ops : Array Oper}
theorem drawOk_spec (h : drawOk ops = true) : (∀ i o, ops[i]? = some o → ∀ e ∈ o.after.toList, Region.binds .any e = true → e.on < i) ∧
    (∀ i j oi oj, i < j → ops[i]? = some oi → ops[j]? = some oj → i ∉ (deps ops.toList).getD j [] → indep ops oi oj = true) := by
  unfold drawOk at h
  simp only [Bool.and_eq_true, List.all_eq_true] at h
  obtain ⟨h1, h2⟩ := h
  have mem : ∀ i o, ops[i]? = some o → (o, i) ∈ ops.toList.zipIdx := by
    intro i o ho
    rw [List.mk_mem_zipIdx_iff_getElem?]
    simpa using ho
  refine ⟨fun i o ho e he hb => ?_, fun i j oi oj hij hoi hoj hn => ?_⟩
  · have := h1 (o, i) (mem i o ho) e he
    simpa [hb] using this
  · have := h2 (oi, i) (mem i oi hoi) (oj, j) (mem j oj hoj)
    simp only [Bool.or_eq_true, decide_eq_true_eq, List.contains_iff_mem] at this
    rcases this with (h | h) | h
    · omega
    · exact absurd h hn
    · exact h
theorem deps_lt (h : drawOk ops = true) : ∀ i x, x ∈ (deps ops.toList).getD i [] → x < i := by
  obtain ⟨hE, _⟩ := drawOk_spec h
  intro i
  induction i using Nat.strongRecOn with
  | _ i ih =>
    intro x hx
    obtain ⟨o, ho, e, he, hb, hx'⟩ := mem_deps hx
    have hlt := hE i o (by simpa using ho) e he hb
    rcases hx' with rfl | ⟨_, hx'⟩
    · exact hlt
    · have := ih e.on hlt x hx'
      omega
def exec (X : Env) (call : CallF) (ops : Array Oper) : List Nat → St → Option (St × List (Nat × Foot))
  | [], st => some (st, [])
  | i :: l, st =>
    match ops[i]? with
    | none => none
    | some o =>
      match stepD X call ops o st with
      | none => none
      | some st' =>
        match exec X call ops l st' with
        | some (r, fs) => some (r, (i, footD X ops o st) :: fs)
        | none => none
theorem exec_cons {i : Nat} {l : List Nat} {st r : St} {fs : List (Nat × Foot)} (h : exec X call ops (i :: l) st = some (r, fs)) :
    ∃ o st' fs', ops[i]? = some o ∧ stepD X call ops o st = some st' ∧ exec X call ops l st' = some (r, fs') ∧ fs = (i, footD X ops o st) :: fs' := by
  rw [exec] at h
  split at h
  · simp at h
  · rename_i o ho
    split at h
    · simp at h
    · rename_i st' hs
      split at h
      · rename_i r' fs' he
        simp only [Option.some.injEq, Prod.mk.injEq] at h
        obtain ⟨rfl, rfl⟩ := h
        exact ⟨o, st', fs', ho, hs, he, rfl⟩
      · simp at h
theorem exec_mk {i : Nat} {l : List Nat} {st st' r : St} {fs : List (Nat × Foot)} {o : Oper} (ho : ops[i]? = some o) (hs : stepD X call ops o st = some st') (he : exec X call ops l st' = some (r, fs)) :
    exec X call ops (i :: l) st = some (r, (i, footD X ops o st) :: fs) := by
  rw [exec]; simp only [ho, hs, he]
theorem exec_move {i : Nat} {l2 : List Nat} {r : St} : ∀ (l1 : List Nat) (st : St) (fs : List (Nat × Foot)), exec X call ops (l1 ++ i :: l2) st = some (r, fs) →
    (∀ x ∈ l1, ∀ ox oi, ops[x]? = some ox → ops[i]? = some oi → indep ops ox oi = true) → (∀ x ∈ l1, ∀ fx fi, (x, fx) ∈ fs → (i, fi) ∈ fs → fx.ok fi = true) →
    ∃ fs', exec X call ops (i :: (l1 ++ l2)) st = some (r, fs') ∧ ∀ p, p ∈ fs' ↔ p ∈ fs
  | [], st, fs, h, _, _ => ⟨fs, h, fun _ => Iff.rfl⟩
  | x :: l1, st, fs, h, hi, hf => by
    obtain ⟨ox, sx, fs1, hox, hsx, he, rfl⟩ := exec_cons h
    obtain ⟨fs2, he2, hm2⟩ := exec_move l1 sx fs1 he (fun y hy => hi y (by simp [hy])) (fun y hy fx fi h1 h2 => hf y (by simp [hy]) fx fi (by simp [h1]) (by simp [h2]))
    obtain ⟨oi, sxi, fs3, hoi, hsi, he3, rfl⟩ := exec_cons he2
    have hok := hf x (by simp) (footD X ops ox st) (footD X ops oi sx) (by simp) (by
      have := (hm2 (i, footD X ops oi sx)).1 (by simp)
      simp [this])
    obtain ⟨hfoot, s2, k1, k2, k3⟩ := stepD_comm (hi x (by simp) ox oi hox hoi) hsx hsi hok
    have e1 := exec_mk hox k2 he3
    have e2 := exec_mk hoi k1 e1
    refine ⟨_, e2, fun p => ?_⟩
    have hm := hm2 p
    rw [hfoot, k3]
    simp only [List.mem_cons] at hm ⊢
    constructor
    · rintro (h | h | h)
      · exact .inr (hm.1 (.inl h))
      · exact .inl h
      · exact .inr (hm.1 (.inr h))
    · rintro (h | h)
      · exact .inr (.inl h)
      · rcases hm.2 h with h | h
        · exact .inl h
        · exact .inr (.inr h)
def PW (ds : List (List Nat)) (fs : List (Nat × Foot)) : Prop := ∀ p ∈ fs, ∀ q ∈ fs, p.1 < q.1 → comparable ds p.1 q.1 = true ∨ p.2.ok q.2 = true
theorem evOpsD_exec (ds : List (List Nat)) : ∀ (l : List Oper) (i : Nat) (pre : List Foot) (st r : St), pre.length = i → (∀ j, l[j]? = ops[i + j]?) → evOpsD X call ops ds i pre l st = some r →
    PW ds ((pre.zipIdx).map fun p => (p.2, p.1)) → ∃ fs, exec X call ops (List.range' i l.length) st = some (r, fs) ∧ PW ds ((pre.zipIdx).map (fun p => (p.2, p.1)) ++ fs)
  | [], i, pre, st, r, _, _, h, hp => by
    simp only [evOpsD, Option.some.injEq] at h; subst h
    exact ⟨[], rfl, by simpa using hp⟩
  | o :: l, i, pre, st, r, hl, hk, h, hp => by
    rw [evOpsD] at h
    split at h
    · rename_i hc
      split at h
      · rename_i st' hs
        have hk0 : ops[i]? = some o := by simpa using (hk 0).symm
        have hzip : ((pre ++ [footD X ops o st]).zipIdx).map (fun p => (p.2, p.1)) = (pre.zipIdx).map (fun p => (p.2, p.1)) ++ [(i, footD X ops o st)] := by
          rw [List.zipIdx_append]; simp [hl]
        have hmem : ∀ p ∈ (pre.zipIdx).map (fun p => (p.2, p.1)), p.1 < i ∧ (comparable ds p.1 i = true ∨ p.2.ok (footD X ops o st) = true) := by
          intro p hp
          obtain ⟨q, hq, rfl⟩ := List.mem_map.1 hp
          have hlt : q.2 < i := by
            have := List.snd_lt_of_mem_zipIdx hq
            omega
          refine ⟨hlt, ?_⟩
          simp only [Bool.or_eq_true, List.all_eq_true] at hc
          rcases hc with hc | hc
          · right; simp [Foot.ok, hc]
          · have := hc q hq
            simpa [Bool.or_eq_true] using this
        have hp' : PW ds (((pre ++ [footD X ops o st]).zipIdx).map fun p => (p.2, p.1)) := by
          rw [hzip]
          intro p hp1 q hq1 hlt
          rcases List.mem_append.1 hp1 with h1 | h1
          · rcases List.mem_append.1 hq1 with h2 | h2
            · exact hp p h1 q h2 hlt
            · simp only [List.mem_singleton] at h2
              subst h2
              exact (hmem p h1).2
          · simp only [List.mem_singleton] at h1
            subst h1
            rcases List.mem_append.1 hq1 with h2 | h2
            · have := (hmem q h2).1
              simp only at hlt
              omega
            · simp only [List.mem_singleton] at h2
              subst h2
              simp at hlt
        obtain ⟨fs, e1, e2⟩ := evOpsD_exec ds l (i + 1) (pre ++ [footD X ops o st]) st' r (by simp [hl]) (fun j => by have := hk (j + 1); simpa [Nat.add_assoc, Nat.add_comm 1 j] using this) h hp'
        refine ⟨(i, footD X ops o st) :: fs, ?_, ?_⟩
        · rw [List.length_cons, List.range'_succ]
          exact exec_mk hk0 hs e1
        · rw [hzip] at e2
          simpa using e2
      · simp at h
    · simp at h
end
end Go.Ev
namespace Go.Ev
section
variable {X : Env} {call : CallF} {ops : Array Oper}
theorem step_wp (hcall : CallOk X call) (hext : ExtOk X) {n L : Nat} {I : Imm} {w : World} {φ : Phi} {st st1 : St} {a : Act} {i : Nat} {o : Oper} (ho : ops[i]? = some o) (hd : ∀ d, o.dst = some d → d < n) (h : StOk X I w φ n L st a)
    (e : stepD X call ops o st = some st1) {K : Act → World → Prop} {Q : Exit → Act → World → Prop} (hK : ∀ a' w' I' φ', Ext I w φ I' w' φ' → StOk X I' w' φ' n L st1 a' → K a' w') : wpOp X.P ops Q i K a w := by
  unfold wpOp
  simp only [ho]
  rw [← wanted_ok h]
  unfold stepD at e
  split at e
  · rename_i hw
    rw [if_pos hw]
    left
    unfold memStep at e
    cases hev : evOp X st.m st.t o with
    | none => simp [hev] at e
    | some r =>
      rw [hev] at e
      refine upon_sound hcall hext h hd hev ?_ ?_ ?_ ?_ ?_
      · rintro v m rfl a' w' I' φ' he' h'
        simp only [Option.some.injEq] at e; subst e
        exact hK _ _ _ _ he' h'
      · rintro m rfl a' w' I' φ' he' h'
        simp only [Option.some.injEq] at e; subst e
        exact hK _ _ _ _ he' h'
      · rintro f args m rfl
        simp only at e
        cases hdo : doCall X call f args m (o.dst.getD 0) with
        | none => simp [hdo] at e
        | some res =>
          refine ⟨res, rfl, ?_, ?_⟩
          · rintro v m' rfl a' w' I' φ' he' h'
            simp only [hdo, Option.some.injEq] at e; subst e
            exact hK _ _ _ _ he' h'
          · rintro v m' rfl w' I' φ' x he' h' hr
            simp [hdo] at e
      · rintro f cap rfl a' h'
        simp at e
      · rintro v rfl x hr
        simp at e
  · rename_i hw
    rw [if_neg hw]
    simp only [Option.some.injEq] at e; subst e
    exact hK _ _ I φ (Ext.refl _ _ _) (skip_ok h hd)
theorem getD_set {l : Array Bool} {i j : Nat} (hi : i < l.size) (d : Bool) : (l.setIfInBounds i true).getD j d = if i = j then true else l.getD j d := by
  split
  · rename_i h; subst h; simp [hi]
  · rename_i h; simp [Array.getElem?_setIfInBounds_ne h]
theorem any_sound (hok : drawOk ops = true) (hcall : CallOk X call) (hext : ExtOk X) {n L : Nat} (hd : ∀ o ∈ ops.toList, ∀ d, o.dst = some d → d < n) {I0 : Imm} {w0 : World} {φ0 : Phi} {st' : St} :
    ∀ (fuel : Nat) (listed : Array Bool) (rem : List Nat) (st : St) (fs : List (Nat × Foot)) (I : Imm) (w : World) (φ : Phi) (a : Act), listed.size = ops.size → rem.length = fuel → (∀ i, i ∈ rem ↔ i < ops.size ∧ listed.getD i false = false) → rem.Pairwise (· < ·) →
      (∀ i o, ops[i]? = some o → listed.getD i false = true → ∀ e ∈ o.after.toList, Region.binds .any e = true → listed.getD e.on false = true) →
      exec X call ops rem st = some (st', fs) → PW (deps ops.toList) fs → Ext I0 w0 φ0 I w φ → StOk X I w φ n L st a →
      wpAny X.P .any ops (OutQ X I0 w0 φ0 n L (.normal, st')) fuel listed a w := by
  obtain ⟨hE, hI⟩ := drawOk_spec hok
  intro fuel
  have unl : ∀ (listed : Array Bool) (i : Nat), listed.size = ops.size → i < ops.size → (listed.getD i true = false ↔ listed.getD i false = false) := by
    intro listed i hs hi
    have : i < listed.size := by omega
    simp [this]
  have ready_iff : ∀ (listed : Array Bool) (i : Nat), listed.size = ops.size → (i ∈ Region.ready .any ops listed ↔ i < ops.size ∧ listed.getD i false = false ∧ ∀ o, ops[i]? = some o → ∀ e ∈ o.after.toList, Region.binds .any e = true → listed.getD e.on false = true) := by
    intro listed i hs
    rw [mem_ready]
    constructor
    · rintro ⟨h1, o, ho, h2⟩
      have hi : i < ops.size := (Array.getElem?_eq_some_iff.1 ho).1
      refine ⟨hi, (unl listed i hs hi).1 h1, fun o' ho' e he hb => ?_⟩
      rw [ho] at ho'
      have := Option.some.inj ho'
      subst this
      exact h2 e (Array.mem_toList_iff.1 he) hb
    · rintro ⟨hi, h1, h2⟩
      have ho : ops[i]? = some ops[i] := by simp [hi]
      exact ⟨(unl listed i hs hi).2 h1, ops[i], ho, fun e he hb => h2 _ ho e (Array.mem_toList_iff.2 he) hb⟩
  induction fuel with
  | zero =>
    intro listed rem st fs I w φ a hs hl hrem _ _ hex _ he h
    have hnil : rem = [] := List.length_eq_zero_iff.1 hl
    subst hnil
    simp only [exec, Option.some.injEq, Prod.mk.injEq] at hex
    obtain ⟨rfl, _⟩ := hex
    refine ⟨?_, I, φ, he, h, trivial⟩
    apply List.eq_nil_iff_forall_not_mem.2
    intro i hi
    obtain ⟨h1, h2, _⟩ := (ready_iff listed i hs).1 hi
    have := (hrem i).2 ⟨h1, h2⟩
    simp at this
  | succ fuel ih =>
    intro listed rem st fs I w φ a hs hl hrem hsort hclosed hex hpw he h
    refine ⟨fun hnone => ?_, fun i hi => ?_⟩
    · exfalso
      cases rem with
      | nil => simp at hl
      | cons k rest =>
        obtain ⟨hk1, hk2⟩ := (hrem k).1 (by simp)
        have : k ∈ Region.ready .any ops listed := by
          rw [ready_iff listed k hs]
          refine ⟨hk1, hk2, fun o ho e hem hb => ?_⟩
          have hlt := hE k o ho e hem hb
          cases hle : listed.getD e.on false with
          | true => rfl
          | false =>
            have hin := (hrem e.on).2 ⟨by omega, hle⟩
            rcases List.mem_cons.1 hin with h1 | h1
            · omega
            · have := (List.pairwise_cons.1 hsort).1 e.on h1
              omega
        rw [hnone] at this
        simp at this
    · obtain ⟨hi1, hi2, hi3⟩ := (ready_iff listed i hs).1 hi
      have hin := (hrem i).2 ⟨hi1, hi2⟩
      obtain ⟨l1, l2, rfl⟩ := List.append_of_mem hin
      have hoi : ops[i]? = some ops[i] := by simp [hi1]
      rw [List.pairwise_append] at hsort
      obtain ⟨s1, s2, s3⟩ := hsort
      have s4 := List.pairwise_cons.1 s2
      have hdeps : ∀ x, x ∈ (deps ops.toList).getD i [] → listed.getD x false = true := by
        have key : ∀ j, (∀ o, ops[j]? = some o → ∀ e ∈ o.after.toList, Region.binds .any e = true → listed.getD e.on false = true) → ∀ x, x ∈ (deps ops.toList).getD j [] → listed.getD x false = true := by
          intro j
          induction j using Nat.strongRecOn with
          | _ j ihj =>
            intro hj x hx
            obtain ⟨o, ho, e, hem, hb, hx'⟩ := mem_deps hx
            have ho' : ops[j]? = some o := by simpa using ho
            have hle := hj o ho' e hem hb
            rcases hx' with rfl | ⟨hlt, hx'⟩
            · exact hle
            · exact ihj e.on hlt (fun o2 ho2 e2 he2 hb2 => hclosed e.on o2 ho2 hle e2 he2 hb2) x hx'
        exact key i hi3
      have hl1 : ∀ x ∈ l1, x < i ∧ x ∉ (deps ops.toList).getD i [] := by
        intro x hx
        refine ⟨s3 x hx i (by simp), fun hm => ?_⟩
        have h1 := hdeps x hm
        have h2 := ((hrem x).1 (by simp [hx])).2
        rw [h1] at h2
        simp at h2
      obtain ⟨fs', hex', hmem⟩ := exec_move l1 st fs hex
        (fun x hx ox oi hox hoi' => hI x i ox oi (hl1 x hx).1 hox hoi' (hl1 x hx).2)
        (fun x hx fx fi h1 h2 => by
          rcases hpw (x, fx) h1 (i, fi) h2 (hl1 x hx).1 with hc | hc
          · exfalso
            simp only [comparable, Bool.or_eq_true, List.contains_iff_mem] at hc
            rcases hc with hc | hc
            · exact (hl1 x hx).2 hc
            · have h1 := deps_lt hok x i hc
              have h2 := (hl1 x hx).1
              omega
          · exact hc)
      obtain ⟨o, st1, fs1, ho, hst, hex1, rfl⟩ := exec_cons hex'
      have hdo : ∀ d, o.dst = some d → d < n := hd o (by
        rw [Array.mem_toList_iff]
        exact Array.mem_of_getElem? ho)
      refine step_wp hcall hext ho hdo h hst (fun a' w' I' φ' he' h' => ?_)
      have hsz : i < listed.size := by omega
      refine ih (listed.setIfInBounds i true) (l1 ++ l2) st1 fs1 I' w' φ' a' (by simpa using hs) (by simp at hl ⊢; omega) (fun j => ?_) ?_ ?_ hex1 ?_ (he.trans he') h'
      · rw [getD_set hsz]
        constructor
        · intro hj
          have hj' : j ∈ l1 ++ i :: l2 := by
            rcases List.mem_append.1 hj with h1 | h1 <;> simp [h1]
          obtain ⟨q1, q2⟩ := (hrem j).1 hj'
          have hne : i ≠ j := by
            rintro rfl
            rcases List.mem_append.1 hj with h1 | h1
            · have := (hl1 i h1).1; omega
            · have := s4.1 i h1; omega
          exact ⟨q1, by rw [if_neg hne]; exact q2⟩
        · rintro ⟨q1, q2⟩
          split at q2
          · simp at q2
          · rename_i hne
            have := (hrem j).2 ⟨q1, q2⟩
            rcases List.mem_append.1 this with h1 | h1
            · exact List.mem_append_left _ h1
            · rcases List.mem_cons.1 h1 with h2 | h2
              · exact absurd h2.symm hne
              · exact List.mem_append_right _ h2
      · rw [List.pairwise_append]
        exact ⟨s1, s4.2, fun x hx y hy => s3 x hx y (by simp [hy])⟩
      · intro j oj hoj hj e hem hb
        rw [getD_set hsz] at hj ⊢
        split
        · rfl
        · split at hj
          · rename_i hij
            subst hij
            exact hi3 oj hoj e hem hb
          · exact hclosed j oj hoj hj e hem hb
      · intro p hp q hq hlt
        exact hpw p ((hmem p).1 (by simp [hp])) q ((hmem q).1 (by simp [hq])) hlt
theorem draw_sound (hmix : X.P.follows .mixedOrders = true) (hcall : CallOk X call) (hext : ExtOk X) : DrawSound X call := by
  intro id ops n L st st' I w φ a hok hd h e
  refine wp_region_any hmix ?_
  have hdrew : MemOk X.P I w.drew φ st.m ∧ Ext I w φ I w.drew φ := step_drew h.mem
  have h1 : StOk X I w.drew φ n L st a := by
    have := h.ext hdrew.2 hdrew.1 h.len
    exact this
  obtain ⟨fs, e1, e2⟩ := evOpsD_exec (ops := ops) (deps ops.toList) ops.toList 0 [] st st' rfl (fun j => by simp) e (fun p hp => by simp at hp)
  have hlist : List.range' 0 ops.toList.length = List.range ops.size := by rw [List.range_eq_range', Array.length_toList]
  rw [hlist] at e1
  have hfalse : ∀ i, (Array.replicate ops.size false).getD i false = false := by
    intro i
    rw [Array.getD_eq_getD_getElem?, Array.getElem?_replicate]
    split <;> rfl
  refine any_sound hok hcall hext hd ops.size (Array.replicate ops.size false) (List.range ops.size) st fs I _ φ a (by simp) (by simp) (fun i => ?_) List.pairwise_lt_range (fun i o _ hl => by rw [hfalse] at hl; simp at hl) e1 (by simpa using e2) hdrew.2 h1
  rw [hfalse]
  simp
end
end Go.Ev
namespace Go.Ev
def GrownO (W W' : World) : Prop := W.keptBut W' (fun _ => False) ∧ (∀ a : Addr, a.block < W.heap.size → W'.frozen? a = W.frozen? a) ∧ W.heap.size ≤ W'.heap.size
theorem grown_of {I I' : Imm} {w w' : World} {φ' : Phi} (h : Ext I w (fun _ => none) I' w' φ') : GrownO w w' := by
  have hb : ∀ b, b < w.heap.size → w'.heap[b]? = w.heap[b]? := fun b hb => h.block b hb (fun r l hl => by simp at hl)
  refine ⟨⟨h.os, h.output, fun i hi => ?_⟩, fun a ha => ?_, h.hsize⟩
  · rw [hb i hi]
    cases hx : w.heap[i]? with
    | none => rfl
    | some x => cases x <;> first | exact ⟨rfl, rfl, rfl, fun _ _ => rfl⟩ | exact .inr ⟨rfl, rfl⟩ | rfl
  · unfold World.frozen?
    rw [hb a.block ha]
theorem calls_of {X : Env} (hmix : X.P.follows .mixedOrders = true) (hext : ExtOk X) {k : Nat} {f : FuncId} {args : List V} {v : V} {out : List Rows} (e : evFn X k f args [] = some (.ret v, out))
    {I : Imm} {w : World} {xs : List Value} (hold : ∀ b o, I b o → b < w.heap.size) (hg : GlobOk X I w) (ha : All2 (RelP I w) args xs) :
    Calls X.P f ⟨xs⟩ w fun e w' => ∃ x, e = .returned x ∧ GrownO w w' ∧ ∃ I' U', Ext I w (fun _ => none) I' w' (fun _ => none) ∧ RelR X.P I' w' (fun _ => none) (usedB w fun _ => none) v x U' := by
  have hcall := (all_sound hext (fun k h => draw_sound hmix h hext) k).1
  refine Calls.mono (hcall f args [] _ e I w (fun _ => none) xs hold hg (fun _ => rfl) (ha.mono fun _ _ h => .p h)) (fun e w' h => ?_)
  cases e with
  | returned x =>
    obtain ⟨I', φ', U', k1, k2, k3, k4⟩ := h
    have hφ := out_nil k2 (by simpa using k3)
    subst hφ
    exact ⟨x, rfl, grown_of k1, I', U', k1, k4⟩
  | panicked c => exact h.elim
  | outgrown => exact h.elim
theorem calls_bool {X : Env} (hmix : X.P.follows .mixedOrders = true) (hext : ExtOk X) {f : FuncId} {args : List V} {b : Bool} (hr : Runs X f args (.ret (.bool b)))
    {I : Imm} {w : World} {xs : List Value} (hold : ∀ b o, I b o → b < w.heap.size) (hg : GlobOk X I w) (ha : All2 (RelP I w) args xs) :
    Calls X.P f ⟨xs⟩ w fun e w' => e = .returned (.bool b) ∧ GrownO w w' := by
  obtain ⟨out, k, e⟩ := hr
  refine Calls.mono (calls_of hmix hext e hold hg ha) (fun e w' h => ?_)
  obtain ⟨x, rfl, hgr, I', U', _, hR⟩ := h
  refine ⟨?_, hgr⟩
  have := plain_rel (X := X) (I' := I') (w' := w') (φ' := fun _ => none) hR rfl
  rw [rel_bool this]
end Go.Ev
namespace Go.Proofs.YtpocekfifokndaaDoor
open Go Go.Shelf
def lays146_ren : Go.Shelf.Ren := ⟨fun | 146 => 91 | 221 => 136 | 268 => 151 | 138 => 152 | 143 => 153 | 195 => 159 | 197 => 160 | 218 => 161 | 219 => 162 | 260 => 171 | 217 => 172 | 225 => 173 | 224 => 174 | 267 => 175 | 266 => 181 | 314 => 182 | n => n, fun | 9 => 9 | 31 => 94 | 3 => 3 | 4 => 4 | 0 => 0 | 105 => 181 | 21 => 21 | 5 => 5 | 46 => 195 | 119 => 201 | 139 => 204 | 138 => 203 | 146 => 205 | 51 => 198 | n => n, fun | 1 => 1 | 3 => 3 | 4 => 4 | n => n⟩
theorem lays146 : Go.Proofs.Lays.n146 Tryd.prog lays146_ren := {
  mixed := by kernel_rfl
  f138 := Tryd.func152.trans (congrArg some (by kernel_rfl))
  f143 := Tryd.func153.trans (congrArg some (by kernel_rfl))
  f146 := Tryd.func91.trans (congrArg some (by kernel_rfl))
  f195 := Tryd.func159.trans (congrArg some (by kernel_rfl))
  f197 := Tryd.func160.trans (congrArg some (by kernel_rfl))
  f217 := Tryd.func172.trans (congrArg some (by kernel_rfl))
  f218 := Tryd.func161.trans (congrArg some (by kernel_rfl))
  f219 := Tryd.func162.trans (congrArg some (by kernel_rfl))
  f221 := Tryd.func136.trans (congrArg some (by kernel_rfl))
  f224 := Tryd.func174.trans (congrArg some (by kernel_rfl))
  f225 := Tryd.func173.trans (congrArg some (by kernel_rfl))
  f260 := Tryd.func171.trans (congrArg some (by kernel_rfl))
  f266 := Tryd.func181.trans (congrArg some (by kernel_rfl))
  f267 := Tryd.func175.trans (congrArg some (by kernel_rfl))
  f268 := Tryd.func151.trans (congrArg some (by kernel_rfl))
  f314 := Tryd.func182.trans (congrArg some (by kernel_rfl))
  t0 := Tryd.underlying0
  a0 := Tryd.isAgg0
  z0 := Tryd.sizeOf0
  v0 := Tryd.zeroValue0
  t3 := Tryd.underlying3
  a3 := Tryd.isAgg3
  z3 := Tryd.sizeOf3
  v3 := Tryd.zeroValue3
  t4 := Tryd.underlying4
  a4 := Tryd.isAgg4
  z4 := Tryd.sizeOf4
  v4 := Tryd.zeroValue4
  t5 := Tryd.underlying5
  a5 := Tryd.isAgg5
  z5 := Tryd.sizeOf5
  v5 := Tryd.zeroValue5
  t9 := Tryd.underlying9
  a9 := Tryd.isAgg9
  z9 := Tryd.sizeOf9
  v9 := Tryd.zeroValue9
  t21 := Tryd.underlying21
  a21 := Tryd.isAgg21
  z21 := Tryd.sizeOf21
  v21 := Tryd.zeroValue21
  t31 := Tryd.underlying94
  a31 := Tryd.isAgg94
  z31 := Tryd.sizeOf94
  v31 := Tryd.zeroValue94
  t46 := Tryd.underlying195
  a46 := Tryd.isAgg195
  z46 := Tryd.sizeOf195
  v46 := Tryd.zeroValue195
  t51 := Tryd.underlying198
  a51 := Tryd.isAgg198
  z51 := Tryd.sizeOf198
  v51 := Tryd.zeroValue198
  t105 := Tryd.underlying181
  a105 := Tryd.isAgg181
  z105 := Tryd.sizeOf181
  v105 := Tryd.zeroValue181
  t119 := Tryd.underlying201
  a119 := Tryd.isAgg201
  z119 := Tryd.sizeOf201
  t138 := Tryd.underlying203
  a138 := Tryd.isAgg203
  z138 := Tryd.sizeOf203
  v138 := Tryd.zeroValue203
  t139 := Tryd.underlying204
  a139 := Tryd.isAgg204
  z139 := Tryd.sizeOf204
  v139 := Tryd.zeroValue204
  t146 := Tryd.underlying205
  a146 := Tryd.isAgg205
  z146 := Tryd.sizeOf205
  v146 := Tryd.zeroValue205
  g1 := by kernel_rfl
  g3 := by kernel_rfl
  g4 := by kernel_rfl }
open Go.RowKit Go.Lib in
theorem lib_Split (s sep : ByteArray) (m : Int) (w : World) (hs : s.size < 4294967281) (hm : w.cell? ⟨1, 0, none⟩ = some (.int .i64 m)) (h1 : 1 ≤ sep.size) :
    Calls Tryd.prog 91 #[.string s, .string sep] w fun e w' =>
      e = .returned (.slice (some ⟨w.heap.size, 0, none⟩) (Lib.countB s sep + 1) (Lib.countB s sep + 1)) ∧ w' = w.alloc (.cells ((Lib.splitB sep 0 (Lib.countB s sep) s).map Value.string).toArray 9) := Any.strings_Split lays146 (by kernel_rfl) s sep m w hs hm h1
end Go.Proofs.YtpocekfifokndaaDoor
namespace Go.Proofs.YtpocekfifokndaaDoor
open Go Go.Shelf
def lays156_ren : Go.Shelf.Ren := ⟨fun | 156 => 130 | 165 => 147 | 166 => 148 | 169 => 149 | 240 => 157 | 241 => 158 | 276 => 169 | 277 => 170 | n => n, fun | 31 => 94 | 9 => 9 | 3 => 3 | 4 => 4 | 0 => 0 | 20 => 20 | 72 => 164 | 76 => 168 | 70 => 161 | 37 => 162 | 75 => 167 | 127 => 179 | 164 => 192 | 5 => 5 | 80 => 170 | n => n, fun | n => n⟩
theorem lays156 : Go.Proofs.Lays.n156 Tryd.prog lays156_ren := {
  mixed := by kernel_rfl
  f156 := Tryd.func130.trans (congrArg some (by kernel_rfl))
  f165 := Tryd.func147.trans (congrArg some (by kernel_rfl))
  f166 := Tryd.func148.trans (congrArg some (by kernel_rfl))
  f169 := Tryd.func149.trans (congrArg some (by kernel_rfl))
  f240 := Tryd.func157.trans (congrArg some (by kernel_rfl))
  f241 := Tryd.func158.trans (congrArg some (by kernel_rfl))
  f276 := Tryd.func169.trans (congrArg some (by kernel_rfl))
  f277 := Tryd.func170.trans (congrArg some (by kernel_rfl))
  t0 := Tryd.underlying0
  a0 := Tryd.isAgg0
  z0 := Tryd.sizeOf0
  v0 := Tryd.zeroValue0
  t3 := Tryd.underlying3
  a3 := Tryd.isAgg3
  z3 := Tryd.sizeOf3
  v3 := Tryd.zeroValue3
  t4 := Tryd.underlying4
  a4 := Tryd.isAgg4
  z4 := Tryd.sizeOf4
  v4 := Tryd.zeroValue4
  t9 := Tryd.underlying9
  a9 := Tryd.isAgg9
  z9 := Tryd.sizeOf9
  v9 := Tryd.zeroValue9
  t20 := Tryd.underlying20
  a20 := Tryd.isAgg20
  z20 := Tryd.sizeOf20
  v20 := Tryd.zeroValue20
  t31 := Tryd.underlying94
  a31 := Tryd.isAgg94
  z31 := Tryd.sizeOf94
  v31 := Tryd.zeroValue94
  t37 := Tryd.underlying162
  a37 := Tryd.isAgg162
  z37 := Tryd.sizeOf162
  v37 := Tryd.zeroValue162
  t70 := Tryd.underlying161
  a70 := Tryd.isAgg161
  z70 := Tryd.sizeOf161
  v70 := Tryd.zeroValue161
  t72 := Tryd.underlying164
  a72 := Tryd.isAgg164
  z72 := Tryd.sizeOf164
  v72 := Tryd.zeroValue164
  t75 := Tryd.underlying167
  a75 := Tryd.isAgg167
  z75 := Tryd.sizeOf167
  v75 := Tryd.zeroValue167
  t76 := Tryd.underlying168
  a76 := Tryd.isAgg168
  z76 := Tryd.sizeOf168
  v76 := Tryd.zeroValue168
  t127 := Tryd.underlying179
  a127 := Tryd.isAgg179
  z127 := Tryd.sizeOf179
  v127 := Tryd.zeroValue179
  t164 := Tryd.underlying192
  a164 := Tryd.isAgg192
  z164 := Tryd.sizeOf192
  v164 := Tryd.zeroValue192 }
theorem builder156 : Builder.Extra Tryd.prog lays156_ren := {
  sizeBuilder := by kernel_rfl
  liesBuilder := by kernel_rfl
  t5 := Tryd.underlying5
  a5 := Tryd.isAgg5
  z5 := Tryd.sizeOf5
  v5 := Tryd.zeroValue5
  infoByte := by kernel_rfl
  cellsByte := by kernel_rfl
  sizeByte := by kernel_rfl
  neB5 := by decide }
section
open Go.Ev Go.Pl Go.RowKit
theorem joinB_lib (sep : List UInt8) : ∀ L : List (List UInt8), Lib.join L sep = joinB sep L
  | [] => rfl
  | [x] => Lib.join_one x sep
  | x :: y :: r => by
    rw [Lib.join_cons, joinB, ← joinB_lib sep (y :: r), Lib.join_cons]
    simp [Lib.joinTail]
    intro e; cases e
theorem join_post {I : Imm} {w w' : World} {s : List UInt8} (hold : ∀ b o, I b o → b < w.heap.size) (hb : Below w.heap.size w w') :
    FnPost Tryd.prog I w (fun _ => none) [] (.ret (.str s), []) (.returned (.string ⟨s.toArray⟩)) w' := by
  refine ⟨I, fun _ => none, usedB w fun _ => none, ?_, fun _ => rfl, rfl, .one (fun _ e => by cases e) (.one rfl (.rel (.p (.str _)) rfl))⟩
  exact
    { imm := fun _ _ h => h
      cell := fun b o x hI hx => by
        unfold World.cell? at hx ⊢
        rw [hb.block b (hold b o hI)]; exact hx
      phi := fun _ _ h => h
      hsize := hb.size
      os := hb.os, tape := hb.tape, output := hb.output
      block := fun b h _ => hb.block b h
      fresh := fun r l h => by simp at h
      immNew := fun _ _ h => .inl h
      plain := trivial
      old := fun h b o hI => Nat.lt_of_lt_of_le (h b o hI) hb.size }
theorem join_rel {I : Imm} {w : World} {L : List (List UInt8)} {sep : List UInt8} {x : Value} (hold : ∀ b o, I b o → b < w.heap.size) (hx : RelP I w (.sl (L.map V.str)) x)
    (hl : L.length ≤ 140737488355328) (hlen : (joinB sep L).length ≤ 140737488355328) :
    Calls Tryd.prog 130 #[x, .string ⟨sep.toArray⟩] w (FnPost Tryd.prog I w (fun _ => none) [] (.ret (.str (joinB sep L)), [])) := by
  have hnone : ∀ (a : Option Addr) (c : Nat), Calls Tryd.prog 130 #[.slice a 0 c, .string ⟨sep.toArray⟩] w (FnPost Tryd.prog I w (fun _ => none) [] (.ret (.str []), [])) := fun a c =>
    (Any.strings_Join_none lays156 builder156 a c ⟨sep.toArray⟩ w).mono fun e w' ⟨he, hw⟩ => by
      subst he; subst hw; exact join_post hold (Below.refl _ _)
  generalize hV : L.map V.str = es at hx
  cases hx with
  | slNil =>
    have : L = [] := List.map_eq_nil_iff.1 hV
    subst this
    exact hnone _ _
  | @sl es b o z cap xs hcap hw hc hr =>
    subst hV
    cases L with
    | nil => exact hnone _ _
    | cons y r =>
      have hz : z = 1 := ((hw 0 (.str y) rfl).symm.trans rfl)
      subst hz
      have hcells : ∀ (j : Nat) (s : ByteArray), ((y :: r).map fun s => (⟨s.toArray⟩ : ByteArray))[j]? = some s → w.cell? ⟨b, o + j, none⟩ = some (.string s) := by
        intro j s hs
        rw [List.getElem?_map] at hs
        cases hj : (y :: r)[j]? with
        | none => rw [hj] at hs; simp at hs
        | some u =>
          rw [hj] at hs
          simp only [Option.map_some, Option.some.injEq] at hs
          subst hs
          have e1 : ((y :: r).map V.str)[j]? = some (.str u) := by rw [List.getElem?_map, hj]; rfl
          have h1 := hc j (.str u) 0 (.str u) e1 rfl
          have h2 := hr j (.str u) 0 (.str u) e1 rfl
          rw [Nat.mul_one, Nat.add_zero] at h1
          have h3 := h1.1
          cases h2e : xs j 0 with
          | string t =>
            rw [h2e] at h2 h3
            cases h2
            exact h3
          | _ => rw [h2e] at h2; cases h2
      have hb0 : b < w.heap.size := hold b _ (hc 0 (.str y) 0 (.str y) rfl rfl).2.1
      have hdata : ((y :: r).map fun s => (⟨s.toArray⟩ : ByteArray)).map (·.data.toList) = y :: r := by
        rw [List.map_map]
        conv => rhs; rw [← List.map_id (y :: r)]
        exact List.map_congr_left fun s _ => by simp
      have hj := Any.strings_Join lays156 builder156 b o cap ((y :: r).map fun s => (⟨s.toArray⟩ : ByteArray)) ⟨sep.toArray⟩ w hcells hb0 (by rw [List.length_map]; exact hl) (by rw [List.length_map]; rw [List.length_map] at hcap; exact hcap)
        (by rw [hdata, joinB_lib]; exact hlen)
      rw [hdata, joinB_lib, List.length_map] at hj
      rw [List.length_map]
      exact hj.mono fun e w' ⟨he, hw⟩ => by subst he; exact join_post hold hw
end
end Go.Proofs.YtpocekfifokndaaDoor
namespace Go.Proofs.YtpocekfifokndaaDoor
open Go Go.Ev Go.Pl
theorem index_cons_ne {b c : UInt8} (l : List UInt8) (h : b ≠ c) : Lib.index (b :: l) [c] = if Lib.index l [c] == -1 then -1 else Lib.index l [c] + 1 := by
  have hp : ([c] : List UInt8).isPrefixOf (b :: l) = false := by simp [List.isPrefixOf, Ne.symm h]
  rw [Lib.index, hp]; simp
theorem index_cons_eq (c : UInt8) (l : List UInt8) : Lib.index (c :: l) [c] = 0 := by rw [Lib.index]; simp [List.isPrefixOf]
theorem split_lib (c : UInt8) : ∀ l : List UInt8, Lib.splitK [c] 0 (Lib.count l [c]) l = splitB c l
  | [] => by
    rw [Lib.count_one, List.count_nil]; rfl
  | b :: l => by
    have ih := split_lib c l
    by_cases h : b = c
    · subst h
      rw [Lib.count_cons_eq, Nat.add_comm, Lib.splitK, index_cons_eq, if_neg (by decide)]
      simp only [Int.toNat_zero, Nat.zero_add, List.take_zero, List.length_cons, List.length_nil, List.drop_succ_cons, List.drop_zero]
      rw [ih]
      simp [splitB]
    · rw [Lib.count_cons_ne b c l h]
      cases hk : Lib.count l [c] with
      | zero =>
        rw [hk] at ih
        simp only [Lib.splitK] at ih ⊢
        rw [splitB, if_neg h, ← ih]
      | succ k =>
        rw [hk] at ih
        simp only [Lib.splitK] at ih ⊢
        rw [splitB, if_neg h, ← ih, index_cons_ne l h]
        have hge := Lib.index_ge l [c]
        by_cases hm : Lib.index l [c] = -1
        · rw [hm]; simp
        · have e1 : ¬ ((Lib.index l [c] == -1) = true) := fun e => hm (beq_iff_eq.1 e)
          rw [if_neg e1, if_neg e1]
          have e2 : ¬ ((Lib.index l [c] + 1 == -1) = true) := fun e => by have := beq_iff_eq.1 e; omega
          rw [if_neg e2]
          have e3 : (Lib.index l [c] + 1).toNat = (Lib.index l [c]).toNat + 1 := by omega
          rw [e3]
          simp only [Nat.add_zero, List.take_succ_cons, List.length_cons, List.length_nil, Nat.zero_add]
          rw [show (Lib.index l [c]).toNat + 1 + 1 = ((Lib.index l [c]).toNat + 1) + 1 from rfl, List.drop_succ_cons]
theorem all2_two {R : V → Value → Prop} {a b : V} {xs : List Value} (h : All2 R [a, b] xs) : ∃ x y, xs = [x, y] ∧ R a x ∧ R b y := by
  obtain ⟨hl, hr⟩ := h
  match xs, hl with
  | [x, y], _ => exact ⟨x, y, rfl, hr 0 _ _ rfl rfl, hr 1 _ _ rfl rfl⟩
theorem split_rel {I : Imm} {w : World} {s : List UInt8} (hold : ∀ b o, I b o → b < w.heap.size) {m : Int} (hm : w.cell? ⟨1, 0, none⟩ = some (.int .i64 m)) (hs : s.length < 4294967281) :
    Calls Tryd.prog 91 #[.string ⟨s.toArray⟩, .string ⟨#[58]⟩] w (FnPost Tryd.prog I w (fun _ => none) [] (.ret (.sl ((splitB 58 s).map .str)), [])) := by
  have hsz : (⟨s.toArray⟩ : ByteArray).size = s.length := by simp [ByteArray.size]
  refine (lib_Split ⟨s.toArray⟩ ⟨#[58]⟩ m w (by rw [hsz]; exact hs) hm (by decide)).mono fun e w' ⟨he, hw⟩ => ?_
  have hd : (Lib.splitB ⟨#[58]⟩ 0 (Lib.countB ⟨s.toArray⟩ ⟨#[58]⟩) ⟨s.toArray⟩).map (fun x => x.data.toList) = splitB 58 s := by
    rw [Lib.splitB_data, ← split_lib]
  have hlen : (splitB 58 s).length = Lib.countB ⟨s.toArray⟩ ⟨#[58]⟩ + 1 := by
    rw [← hd, List.length_map]
    exact Lib.splitB_all ⟨#[58]⟩ (by decide) 0 _ _ rfl
  have hcells : (Lib.splitB ⟨#[58]⟩ 0 (Lib.countB ⟨s.toArray⟩ ⟨#[58]⟩) ⟨s.toArray⟩).map Value.string = (splitB 58 s).map (fun x => Value.string ⟨x.toArray⟩) := by
    rw [← hd, List.map_map]
    refine List.map_congr_left fun x _ => ?_
    simp
  rw [hcells] at hw
  rw [← hlen] at he
  subst he
  subst hw
  generalize splitB 58 s = L
  refine ⟨fun b o => I b o ∨ b = w.heap.size, fun _ => none, usedB w fun _ => none, ?_, fun _ => rfl, rfl, ?_⟩
  · exact
      { imm := fun _ _ h => .inl h
        cell := fun b o x hI hx => by rw [World.cell?_alloc_old _ _ _ (Nat.ne_of_lt (hold b o hI))]; exact hx
        phi := fun _ _ h => h
        hsize := by
          show w.heap.size ≤ (w.heap.push _).size
          rw [Array.size_push]; omega
        os := rfl, tape := rfl, output := rfl
        block := fun b hb _ => heap_alloc_lt hb
        fresh := fun r l h => by simp at h
        immNew := fun b o h => h.elim .inl fun h => .inr (.inr (by rw [h]; exact Nat.le_refl _))
        plain := trivial
        old := fun h b o hI => by
          have : (w.alloc (.cells ((L.map fun x => Value.string ⟨x.toArray⟩)).toArray 9)).heap.size = w.heap.size + 1 := by
            show (w.heap.push _).size = _
            rw [Array.size_push]
          rw [this]
          rcases hI with h' | h'
          · have := h b o h'; omega
          · omega }
  · refine .one (fun _ e => by cases e) (.one rfl (.rel (.p ?_) rfl))
    have key := RelP.sl (I := fun b o => I b o ∨ b = w.heap.size) (w := w.alloc (.cells ((L.map fun x => Value.string ⟨x.toArray⟩)).toArray 9)) (es := L.map V.str) (b := w.heap.size) (o := 0) (z := 1) (cap := L.length)
      (fun j _ => Value.string ⟨(L.getD j []).toArray⟩) (by simp) (fun j e he => by
        rw [List.getElem?_map] at he
        cases hx : L[j]? with
        | none => rw [hx] at he; simp at he
        | some x => rw [hx] at he; simp at he; subst he; rfl)
      (fun j e c v he hc => by
        rw [List.getElem?_map] at he
        cases hx : L[j]? with
        | none => rw [hx] at he; simp at he
        | some x =>
          rw [hx] at he; simp at he; subst he
          have hc0 : c = 0 := by cases c with | zero => rfl | succ c => simp [V.cells] at hc
          subst hc0
          refine ⟨?_, .inr rfl, rfl⟩
          rw [World.cell?_alloc_at _ _ _ _ rfl]
          simp [hx])
      (fun j e c v he hc => by
        rw [List.getElem?_map] at he
        cases hx : L[j]? with
        | none => rw [hx] at he; simp at he
        | some x =>
          rw [hx] at he; simp at he; subst he
          have hc0 : c = 0 := by cases c with | zero => rfl | succ c => simp [V.cells] at hc
          subst hc0
          simp [V.cells] at hc
          subst hc
          rw [List.getD_eq_getElem?_getD, hx]
          exact .str _)
    rw [List.length_map] at key
    exact key
theorem strsOf_map : ∀ {es : List V} {L : List (List UInt8)}, strsOf es = some L → es = L.map V.str
  | [], L, h => by
    simp only [strsOf, Option.some.injEq] at h
    subst h; rfl
  | u :: es, L, h => by
    cases u with
    | str s =>
      simp only [strsOf, Option.map_eq_some_iff] at h
      obtain ⟨L', h', rfl⟩ := h
      rw [strsOf_map h']; rfl
    | _ => simp [strsOf] at h
theorem ext_ok : ExtOk X := by
  intro f args v h I w xs hold hg ha
  change extF f args = some v at h
  unfold extF at h
  split at h
  · rename_i hf
    subst hf
    split at h
    · rename_i s
      split at h
      · rename_i hs
        injection h with h
        subst h
        obtain ⟨x, y, rfl, hx, hy⟩ := all2_two ha
        cases hx
        cases hy
        obtain ⟨k, hk, _⟩ := hg.1 1 (by simp [X])
        exact split_rel hold hk hs
      · simp at h
    · simp at h
  · split at h
    · rename_i hf
      subst hf
      split at h
      · rename_i es sep
        split at h
        · rename_i L hL
          split at h
          · rename_i hs
            injection h with h
            subst h
            obtain ⟨x, y, rfl, hx, hy⟩ := all2_two ha
            cases hy
            rw [strsOf_map hL] at hx
            exact join_rel hold hx hs.1 hs.2
          · simp at h
        · simp at h
      · simp at h
    · simp at h
end Go.Proofs.YtpocekfifokndaaDoor
namespace Go.Ev
open Go.Deep
def tiled (P : Program) : Nat → List Field → Option Nat
  | off, [] => some off
  | off, f :: fs => if f.offset = off then tiled P (off + P.cellsOf f.type) fs else none
def plainT (P : Program) : Nat → TypeId → Bool
  | 0, _ => false
  | n + 1, t =>
    match P.underlying t with
    | some .bool | some (.int _) | some .string => true
    | some (.slice e) => plainT P n e && decide (0 < P.cellsOf e)
    | some (.struct fs) => fs.toList.all (fun f => plainT P n f.type) && decide (tiled P 0 fs.toList = some (P.cellsOf t))
    | some (.array k e) => plainT P n e && decide (k * P.cellsOf e = P.cellsOf t)
    | _ => false
structure CapOk (H : Type) (B : Nat) (ok : DataW H → Prop) : Prop where
  str : ∀ s : List UInt8, s.length ≤ Go.maxLen → ok (.lit (.string s)) → s.length ≤ B
  sl : ∀ D sp, D.length ≤ Go.maxLen → ok (.slice D sp) → D.length ≤ B ∧ ∀ d ∈ D, ok d
  agg : ∀ l, ok (.agg l) → ∀ d ∈ l, ok d
theorem cap_all (H : Type) : CapOk H Go.maxLen fun _ => True := ⟨fun _ h _ => h, fun _ _ h _ => ⟨h, fun _ _ => trivial⟩, fun _ _ _ _ => trivial⟩
def Typ (P : Program) (B : Nat) : Nat → TypeId → V → Prop
  | 0, _, _ => False
  | n + 1, t, v =>
    match P.underlying t with
    | some .bool => ∃ b, v = .bool b
    | some (.int k) => ∃ i, v = .int k i ∧ (Lit.int k i).wf = true
    | some .string => ∃ s, v = .str s ∧ s.length ≤ B
    | some (.slice e) => ∃ es, v = .sl es ∧ es.length ≤ B ∧ ∀ u ∈ es, Typ P B n e u
    | some (.struct fs) => ∃ us : List V, v = .agg (us.flatMap V.cells) ∧ us.length = fs.size ∧ ∀ (i : Nat) (f : Field) (u : V), fs[i]? = some f → us[i]? = some u → Typ P B n f.type u
    | some (.array k e) => ∃ us : List V, v = .agg (us.flatMap V.cells) ∧ us.length = k ∧ ∀ u ∈ us, Typ P B n e u
    | _ => False
theorem width_cells (v : V) : v.cells.length = v.width := by cases v <;> rfl
def CellR (w : World) (u : V) (x : Value) : Prop := RelP (allI w) w u x ∧ x.oneCell' = true
section
variable {H : Type} {enc : TypeId × Value → H} {P : Program} {w : World} {sp : Nat → Bool} {hd : Bool} {B : Nat} {ok : DataW H → Prop}
theorem cells?_get {a : Addr} {n : Nat} {cs : List Value} (h : w.cells? 0 a n = some cs) : cs.length = n ∧ ∀ (i : Nat) (x : Value), cs[i]? = some x → w.cell? (a.add i) = some x := by
  obtain ⟨_, h1, h2⟩ := World.cells?_some h
  refine ⟨h1, fun i x hx => ?_⟩
  rw [h2 i (by rw [← h1]; exact (List.getElem?_eq_some_iff.1 hx).1), hx]
theorem cell?_spot {a : Addr} {x : Value} (h : w.cell? a = some x) : a.spot = none ∧ a.block < w.heap.size := by
  unfold World.cell? at h
  split at h
  · rename_i hb
    split at h
    · simp at h
    · rename_i hs
      refine ⟨by cases hq : a.spot with | none => rfl | some _ => rw [hq] at hs; simp at hs, ?_⟩
      exact (Array.getElem?_eq_some_iff.1 hb).1
  · simp at h
theorem typ_width {B n : Nat} {t : TypeId} {v : V} (h : Typ P B n t v) : v.transit = false ∧ (∀ vs, v ≠ .tup vs) := by
  cases n with
  | zero => exact h.elim
  | succ n =>
    simp only [Typ] at h
    split at h
    · obtain ⟨b, rfl⟩ := h; exact ⟨rfl, fun _ e => by cases e⟩
    · obtain ⟨b, rfl, _⟩ := h; exact ⟨rfl, fun _ e => by cases e⟩
    · obtain ⟨b, rfl, _⟩ := h; exact ⟨rfl, fun _ e => by cases e⟩
    · obtain ⟨b, rfl, _⟩ := h; exact ⟨rfl, fun _ e => by cases e⟩
    · obtain ⟨b, rfl, _⟩ := h; exact ⟨rfl, fun _ e => by cases e⟩
    · obtain ⟨b, rfl, _⟩ := h; exact ⟨rfl, fun _ e => by cases e⟩
    · exact h.elim
theorem all2_one {R : V → Value → Prop} {u : V} {x : Value} (h : R u x) : All2 R [u] [x] := All2.cons h All2.nil
theorem fields_all {n m : Nat} {cs : List Value}
    (ih : ∀ {fuel : Nat} {t : TypeId} {cs : List Value} {x : DataW H × List MemPlace}, plainT P n t = true → DataW.trod enc P w 0 sp hd fuel t cs = some x → ok x.1 → ∃ v, Typ P B n t v ∧ All2 (CellR w) v.cells cs) :
    ∀ (l : List Field) (off : Nat), tiled P off l = some cs.length → l.all (fun f => plainT P n f.type) = true →
      (∀ (i : Nat) (f : Field), l[i]? = some f → ∃ x, DataW.trod enc P w 0 sp hd m f.type ((cs.drop f.offset).take (P.cellsOf f.type)) = some x ∧ ok x.1) →
      ∃ us : List V, us.length = l.length ∧ (∀ (i : Nat) (f : Field) (u : V), l[i]? = some f → us[i]? = some u → Typ P B n f.type u) ∧ All2 (CellR w) (us.flatMap V.cells) (cs.drop off)
  | [], off, ht, _, _ => by
    simp only [tiled, Option.some.injEq] at ht
    refine ⟨[], rfl, fun i f u h => by simp at h, ?_⟩
    rw [ht, List.drop_length]; exact All2.nil
  | f :: l, off, ht, hp, hx => by
    simp only [tiled] at ht
    split at ht
    · rename_i ho
      simp only [List.all_cons, Bool.and_eq_true] at hp
      obtain ⟨x, hx0, hx1⟩ := hx 0 f rfl
      obtain ⟨v, h1, h2⟩ := ih hp.1 hx0 hx1
      obtain ⟨us, g1, g2, g3⟩ := fields_all ih l (off + P.cellsOf f.type) ht hp.2 (fun i g hg => hx (i + 1) g (by simpa using hg))
      refine ⟨v :: us, by simp [g1], ?_, ?_⟩
      · intro i g u hg hu
        cases i with
        | zero => simp at hg hu; subst hg; subst hu; exact h1
        | succ i => exact g2 i g u (by simpa using hg) (by simpa using hu)
      · rw [List.flatMap_cons]
        have e : cs.drop off = (cs.drop f.offset).take (P.cellsOf f.type) ++ cs.drop (off + P.cellsOf f.type) := by
          rw [ho, ← List.drop_drop, List.take_append_drop]
        rw [e]
        exact All2.append h2 g3
    · simp at ht
theorem elems_all {n m z : Nat} {e : TypeId} {cs : List Value} (hz : P.cellsOf e = z) (he : plainT P n e = true)
    (ih : ∀ {fuel : Nat} {t : TypeId} {cs : List Value} {x : DataW H × List MemPlace}, plainT P n t = true → DataW.trod enc P w 0 sp hd fuel t cs = some x → ok x.1 → ∃ v, Typ P B n t v ∧ All2 (CellR w) v.cells cs) :
    ∀ (k i : Nat), (i + k) * z = cs.length → (∀ j, j < i + k → ∃ x, DataW.trod enc P w 0 sp hd m e ((cs.drop (j * z)).take z) = some x ∧ ok x.1) →
      ∃ us : List V, us.length = k ∧ (∀ u ∈ us, Typ P B n e u) ∧ All2 (CellR w) (us.flatMap V.cells) (cs.drop (i * z))
  | 0, i, hc, _ => by
    refine ⟨[], rfl, fun u h => by simp at h, ?_⟩
    rw [Nat.add_zero] at hc
    rw [hc, List.drop_length]; exact All2.nil
  | k + 1, i, hc, hx => by
    obtain ⟨x, hx0, hx1⟩ := hx i (by omega)
    obtain ⟨v, h1, h2⟩ := ih he hx0 hx1
    obtain ⟨us, g1, g2, g3⟩ := elems_all hz he ih k (i + 1) (by rw [← hc]; congr 1; omega) (fun j hj => hx j (by omega))
    refine ⟨v :: us, by simp [g1], ?_, ?_⟩
    · intro u hu
      rcases List.mem_cons.1 hu with rfl | hu
      · exact h1
      · exact g2 u hu
    · rw [List.flatMap_cons]
      have e : cs.drop (i * z) = (cs.drop (i * z)).take z ++ cs.drop ((i + 1) * z) := by
        rw [Nat.succ_mul, ← List.drop_drop, List.take_append_drop]
      rw [e]
      exact All2.append h2 g3
theorem open_plain (hc : CapOk H B ok) : ∀ (n : Nat) {fuel : Nat} {t : TypeId} {cs : List Value} {x : DataW H × List MemPlace}, plainT P n t = true → DataW.trod enc P w 0 sp hd fuel t cs = some x → ok x.1 →
    ∃ v, Typ P B n t v ∧ All2 (CellR w) v.cells cs
  | 0, _, _, _, _, hp, _, _ => by simp [plainT] at hp
  | n + 1, fuel, t, cs, x, hp, h, hok => by
    have ih := @open_plain hc n
    simp only [plainT] at hp
    simp only [Typ]
    split at hp
    · rename_i ht
      obtain ⟨b, rfl, _⟩ := DataW.trod_bool ht h
      exact ⟨.bool b, ⟨b, rfl⟩, all2_one ⟨.bool b, rfl⟩⟩
    · rename_i k ht
      obtain ⟨i, rfl, _, hw⟩ := DataW.trod_int ht h
      exact ⟨.int k i, ⟨i, rfl, hw⟩, all2_one ⟨.int k i, rfl⟩⟩
    · rename_i ht
      obtain ⟨s, rfl, rfl, hl⟩ := DataW.trod_string ht h
      refine ⟨.str s.data.toList, ⟨_, rfl, hc.str _ (by rw [Array.length_toList]; exact hl) hok⟩, all2_one ⟨?_, rfl⟩⟩
      have := RelP.str (I := allI w) (w := w) s.data.toList
      simpa using this
    · rename_i e ht
      simp only [Bool.and_eq_true, decide_eq_true_eq] at hp
      rcases open_slice ht h with ⟨rfl, _⟩ | ⟨a, len, cap, m, k, D, Pl, rfl, _, hlc, hcm, hm, rfl, hel⟩
      · exact ⟨.sl [], ⟨[], rfl, Nat.zero_le _, fun u hu => by simp at hu⟩, all2_one ⟨.slNil, rfl⟩⟩
      · have hcap := hc.sl _ _ (by simp; omega) hok
        have hlm : len ≤ m := by rw [hm]; split <;> omega
        have hex : ∀ i, i < len → ∃ p : V × List Value, w.cells? 0 (a.add (i * P.cellsOf e)) (P.cellsOf e) = some p.2 ∧ Typ P B n e p.1 ∧ All2 (CellR w) p.1.cells p.2 := fun i hi => by
          obtain ⟨cs', h1, h2⟩ := hel i (by omega)
          obtain ⟨v, h3, h4⟩ := ih hp.1 h2 (hcap.2 _ (List.mem_map.2 ⟨i, List.mem_range.2 hi, rfl⟩))
          exact ⟨(v, cs'), h1, h3, h4⟩
        haveI : Inhabited V := ⟨.undef⟩
        obtain ⟨f, hf⟩ := choose_lt hex
        refine ⟨.sl ((List.range len).map fun i => (f i).1), ?_, ?_⟩
        · refine ⟨_, rfl, by simpa using hcap.1, fun u hu => ?_⟩
          obtain ⟨i, hi, rfl⟩ := List.mem_map.1 hu
          exact (hf i (List.mem_range.1 hi)).2.1
        · refine all2_one ⟨?_, rfl⟩
          cases len with
          | zero => exact .slNil
          | succ len =>
            have hspot : a.spot = none := by
              obtain ⟨h1, h2, h3⟩ := hf 0 (Nat.succ_pos _)
              obtain ⟨h4, h5⟩ := cells?_get h1
              obtain ⟨y, hy⟩ : ∃ y, (f 0).2[0]? = some y := ⟨(f 0).2[0]'(by omega), by simp⟩
              have := cell?_spot (h5 0 y hy)
              simpa [Addr.add] using this.1
            obtain ⟨b, o, spot⟩ := a
            dsimp only at hspot
            subst hspot
            have hget : ∀ (j : Nat) (u : V), ((List.range (len + 1)).map fun i => (f i).1)[j]? = some u → j < len + 1 ∧ u = (f j).1 := fun j u hu => by
              rw [List.getElem?_map] at hu
              by_cases hj : j < len + 1
              · rw [List.getElem?_range hj] at hu
                simp only [Option.map_some, Option.some.injEq] at hu
                exact ⟨hj, hu.symm⟩
              · rw [List.getElem?_eq_none (by simp; omega)] at hu
                simp at hu
            have hcell : ∀ (j : Nat) (u : V) (c : Nat) (v : V), ((List.range (len + 1)).map fun i => (f i).1)[j]? = some u → u.cells[c]? = some v → ∃ y, (f j).2[c]? = some y ∧ w.cell? ⟨b, o + j * P.cellsOf e + c, none⟩ = some y ∧ CellR w v y := fun j u c v hu hv => by
              obtain ⟨hj, rfl⟩ := hget j u hu
              obtain ⟨h1, h2, h3⟩ := hf j hj
              obtain ⟨h4, h5⟩ := cells?_get h1
              obtain ⟨y, hy, hr⟩ := h3.get hv
              refine ⟨y, hy, ?_, hr⟩
              have := h5 c y hy
              rw [add_add] at this
              have e : (⟨b, o, none⟩ : Addr).add (j * P.cellsOf e + c) = ⟨b, o + j * P.cellsOf e + c, none⟩ := by
                unfold Addr.add
                split
                · rename_i h0; rw [Nat.add_assoc, h0]; rfl
                · rw [Nat.add_assoc]
              rw [e] at this
              exact this
            have key := RelP.sl (I := allI w) (w := w) (es := (List.range (len + 1)).map fun i => (f i).1) (b := b) (o := o) (z := P.cellsOf e) (cap := cap)
              (fun j c => ((f j).2[c]?).getD .nilIface) (by simp; omega) (fun j u hu => by
                obtain ⟨hj, rfl⟩ := hget j u hu
                obtain ⟨h1, h2, h3⟩ := hf j hj
                rw [← width_cells, h3.1, (cells?_get h1).1])
              (fun j u c v hu hv => by
                obtain ⟨y, hy, hc, hr⟩ := hcell j u c v hu hv
                rw [hy]
                exact ⟨hc, (cell?_spot hc).2, hr.2⟩)
              (fun j u c v hu hv => by
                obtain ⟨y, hy, hc, hr⟩ := hcell j u c v hu hv
                rw [hy]
                exact hr.1)
            rw [List.length_map, List.length_range] at key
            exact key
    · rename_i fs ht
      simp only [Bool.and_eq_true, decide_eq_true_eq] at hp
      obtain ⟨xs, m, rfl, rfl, hl, hxl, hx⟩ := DataW.trod_struct ht h
      obtain ⟨us, g1, g2, g3⟩ := fields_all (hd := hd) (sp := sp) (enc := enc) (ok := ok) ih fs.toList 0 (by rw [hl]; exact hp.2) hp.1 (fun i f hf => by
        have hf' : fs[i]? = some f := by simpa using hf
        have hi : i < xs.length := by rw [hxl]; exact (Array.getElem?_eq_some_iff.1 hf').1
        exact ⟨xs[i], by rw [hx i f hf', List.getElem?_eq_getElem hi], hc.agg _ hok _ (List.mem_map.2 ⟨_, List.getElem_mem hi, rfl⟩)⟩)
      refine ⟨.agg (us.flatMap V.cells), ?_, g3⟩
      exact ⟨us, rfl, by simpa using g1, fun i f u hf hu => g2 i f u (by simpa using hf) hu⟩
    · rename_i k e ht
      simp only [Bool.and_eq_true, decide_eq_true_eq] at hp
      obtain ⟨xs, m, rfl, rfl, hl, hxl, hx⟩ := DataW.trod_array ht h
      obtain ⟨us, g1, g2, g3⟩ := elems_all (hd := hd) (sp := sp) (enc := enc) (ok := ok) (m := m) rfl hp.1 ih k 0 (by rw [Nat.zero_add, hl]; exact hp.2) (fun j hj => by
        have hj' : j < k := by omega
        exact ⟨xs[j]'(by omega), by rw [hx j hj', List.getElem?_eq_getElem], hc.agg _ hok _ (List.mem_map.2 ⟨_, List.getElem_mem _, rfl⟩)⟩)
      refine ⟨.agg (us.flatMap V.cells), ?_, by rw [Nat.zero_mul, List.drop_zero] at g3; exact g3⟩
      exact ⟨us, rfl, g1, g2⟩
    · simp at hp
end
end Go.Ev
namespace Go.Ev
open Go.ChangeShapes Go.WideShapes Go.ChangeAt Go.RowKit Go.Deep
theorem below_of {I I' : Imm} {w w' : World} {φ' : Phi} (h : Ext I w (fun _ => none) I' w' φ') : Below w.heap.size w w' :=
  ⟨h.os, h.tape, h.output, h.hsize, fun b hb => h.block b hb (fun r l hl => by simp at hl)⟩
theorem calls_true {X : Env} (hmix : X.P.follows .mixedOrders = true) (hext : ExtOk X) {f : FuncId} {args : List V} {b : Bool} (hr : Runs X f args (.ret (.bool b)))
    {I : Imm} {w : World} {xs : List Value} (hold : ∀ b o, I b o → b < w.heap.size) (hg : GlobOk X I w) (ha : All2 (RelP I w) args xs) :
    Calls X.P f ⟨xs⟩ w fun e w' => e = .returned (.bool b) ∧ GrownO w w' ∧ Below w.heap.size w w' := by
  obtain ⟨out, k, e⟩ := hr
  refine Calls.mono (calls_of hmix hext e hold hg ha) (fun e w' h => ?_)
  obtain ⟨x, rfl, hgr, I', U', hx, hR⟩ := h
  refine ⟨?_, hgr, below_of hx⟩
  have := plain_rel (X := X) (I' := I') (w' := w') (φ' := fun _ => none) hR rfl
  rw [rel_bool this]
section
variable {H : Type} {enc : TypeId × Value → H} {P : Program} {w : World} {sp : Nat → Bool} {hd : Bool} {B : Nat} {ok : DataW H → Prop}
theorem arg_rel (hc : CapOk H B ok) {n base : Nat} {t : TypeId} {v : Value} {d : DataW H} {ps : List MemPlace} (hp : plainT P n t = true) (hok : Value.okWide P w .any base t v) (h : DataW.Trod enc P w 0 sp hd t v d ps) (hd : ok d) :
    ∃ u, Typ P B n t u ∧ RelP (allI w) w u v := by
  obtain ⟨fuel, hf⟩ := h
  obtain ⟨u, h1, h2⟩ := open_plain hc n hp hf hd
  refine ⟨u, h1, ?_⟩
  cases n with
  | zero => exact h1.elim
  | succ n =>
    have fin : ∀ x : Value, v = x → (u.cells = [u]) → v.cells.toList = [x] → RelP (allI w) w u v := by
      intro x hv hu hx
      rw [hu, hx] at h2
      rw [hv]; exact (h2.2 0 _ _ rfl rfl).1
    have finA : ∀ cs : Array Value, ∀ us, v = .agg cs → u = .agg us → RelP (allI w) w u v := by
      rintro cs us rfl rfl
      have h3 : All2 (CellR w) us cs.toList := h2
      exact .agg h3.1 (fun i a b ha hb => (h3.2 i a b ha hb).1) (fun x hx => by
        obtain ⟨i, hi, rfl⟩ := List.mem_iff_getElem.1 hx
        obtain ⟨y, hy⟩ : ∃ y, us[i]? = some y := ⟨us[i]'(by rw [h3.1]; exact hi), by simp⟩
        exact (h3.2 i y _ hy (List.getElem?_eq_getElem hi)).2)
    simp only [Typ] at h1
    split at h1
    · rename_i ht
      obtain ⟨b, rfl⟩ := okWide_bool ht hok
      obtain ⟨c, rfl⟩ := h1
      exact fin _ rfl rfl rfl
    · rename_i k ht
      obtain ⟨b, rfl⟩ := okWide_int ht hok
      obtain ⟨c, rfl, _⟩ := h1
      exact fin _ rfl rfl rfl
    · rename_i ht
      obtain ⟨b, rfl⟩ := okWide_string ht hok
      obtain ⟨c, rfl, _⟩ := h1
      exact fin _ rfl rfl rfl
    · rename_i e ht
      obtain ⟨a, l, c, rfl⟩ := okWide_slice ht hok
      obtain ⟨c, rfl, _⟩ := h1
      exact fin _ rfl rfl rfl
    · rename_i fs ht
      obtain ⟨us, rfl, _⟩ := h1
      simp only [Value.okWide, ht] at hok
      obtain ⟨cs, rfl, _⟩ := hok
      exact finA cs _ rfl rfl
    · rename_i k e ht
      obtain ⟨us, rfl, _⟩ := h1
      simp only [Value.okWide, ht] at hok
      obtain ⟨cs, rfl, _⟩ := hok
      exact finA cs _ rfl rfl
    · exact h1.elim
def Typs (P : Program) (B n : Nat) : List TypeId → List V → Prop
  | [], [] => True
  | t :: ts, u :: us => Typ P B n t u ∧ Typs P B n ts us
  | _, _ => False
theorem args_rel (hc : CapOk H B ok) {n base : Nat} : ∀ {ts : List TypeId} {vs : List Value} {ds : List (DataW H)} {ps : List MemPlace}, DataW.TrodAll enc P w 0 sp hd ts vs ds ps → ts.all (fun t => plainT P n t) = true →
    (∀ (j : Nat) t v, ts[j]? = some t → vs[j]? = some v → Value.okWide P w .any base t v) → (∀ d ∈ ds, ok d) → ∃ us, Typs P B n ts us ∧ All2 (RelP (allI w) w) us vs ∧ ds.length = ts.length
  | [], vs, ds, ps, h, _, _, _ => by
    obtain ⟨rfl, rfl, _⟩ := trodAll_nil h
    exact ⟨[], trivial, All2.nil, rfl⟩
  | t :: ts, vs, ds, ps, h, hp, hok, hds => by
    obtain ⟨v, vs', d, ds', p, q, rfl, rfl, _, h1, h2⟩ := trodAll_cons h
    simp only [List.all_cons, Bool.and_eq_true] at hp
    obtain ⟨u, hu1, hu2⟩ := arg_rel hc hp.1 (hok 0 t v rfl rfl) h1 (hds _ List.mem_cons_self)
    obtain ⟨us, hs1, hs2, hs3⟩ := args_rel hc h2 hp.2 (fun j t v ht hv => hok (j + 1) t v (by simpa using ht) (by simpa using hv)) (fun d hd => hds d (List.mem_cons_of_mem _ hd))
    exact ⟨u :: us, ⟨hu1, hs1⟩, All2.cons hu2 hs2, by simp [hs3]⟩
theorem args_stay {w' : World} {spr : Nat → Bool} (hl : laidOutB P = true) (hb : Below w.heap.size w w') : ∀ {ts : List TypeId} {vs : List Value} {ds : List (DataW H)} {ps : List MemPlace},
    DataW.TrodAll enc P w 0 (fun _ => true) true ts vs ds ps → ts.all (fun t => P.readableRec t && decide (t < P.types.size)) = true → (∀ x ∈ ps, x.block < w.heap.size) → (∀ x ∈ ps, spr x.block = true) →
    DataW.TrodAll enc P w' 0 spr true ts vs ds ps
  | [], vs, ds, ps, h, _, _, _ => by
    obtain ⟨rfl, rfl, rfl⟩ := trodAll_nil h
    exact trodAll_mk0
  | t :: ts, vs, ds, ps, h, hp, hlt, hsp => by
    obtain ⟨v, vs', d, ds', p, q, rfl, rfl, rfl, h1, h2⟩ := trodAll_cons h
    simp only [List.all_cons, Bool.and_eq_true, decide_eq_true_eq] at hp
    exact trodAll_cons_mk (WideElems.Trod_stays hl hp.1.1 hp.1.2 h1 (fun x hx => hb.same (hlt x (List.mem_append_left _ hx))) (fun x hx => hsp x (List.mem_append_left _ hx)))
      (args_stay hl hb h2 (by simpa using hp.2) (fun x hx => hlt x (List.mem_append_right _ hx)) (fun x hx => hsp x (List.mem_append_right _ hx)))
end
theorem GrownO.frame {W W' : World} (h : GrownO W W') (q : MemPlace → Prop) : W.keptBut W' q := World.keptBut_mono (fun _ h => h.elim) h.1
theorem post_of_old {H : Type} {enc : TypeId × Value → H} {P : Program} {f : Func} {s : ChangeSpec} {apart fresh handsOn again : Bool} {W W' : World} {args : Array Value} {v : Value} {ds gs : List (DataW H)} {before pa pv : List MemPlace}
    (hW : DataW.Whole enc P f.params.toList s.vars apart W args.toList ds gs before)
    (hres : ∀ (b : Nat) (sp : Nat → Bool) (hd : Bool), DataW.TrodAll enc P W' b sp hd f.resultTypes.toList (v.resultList f.resultTypes.size) (s.fn H (ds ++ gs)).results [])
    (hargs : ∀ sp : Nat → Bool, (∀ p ∈ before, sp p.block = true) → DataW.TrodAll enc P W' 0 sp true f.params.toList args.toList (s.fn H (ds ++ gs)).args pa)
    (hvars : ∀ sp : Nat → Bool, (∀ p ∈ before, sp p.block = true) → DataW.TrodVars enc P W' sp s.vars (s.fn H (ds ++ gs)).vars pv)
    (hps : before = pa ++ pv) (hk : W.keptBut W' (· ∈ before)) (hfz : ∀ a : Addr, a.block < W.heap.size → W'.frozen? a = W.frozen? a)
    (hok : ∀ (j : Nat) (t : TypeId) (r : Value), f.resultTypes[j]? = some t → (v.resultList f.resultTypes.size)[j]? = some r → Value.okWide P W' .any 0 t r) :
    s.post enc P f apart fresh handsOn again W args v W' := by
  have hold : ∀ p ∈ before, (fun b => decide (b < W.heap.size)) p.block = true := fun p hp => by simpa using hW.lt p hp
  refine ⟨ds, gs, before, [], pa, pv, hW, hres _ _ _, hargs _ hold, hvars _ hold, World.keptBut_mono (fun p hp => ⟨hp, ?_⟩) hk, fun _ => ?_⟩
  · rw [hps, List.mem_append] at hp
    exact Or.inr hp
  · have hlt := hW.lt
    obtain ⟨_, _, _, _, _, hz, hn⟩ := hW
    refine ⟨hok, _, _, ([] ++ pa) ++ pv, ⟨[] ++ pa, pv, trodAll_append (hargs _ (fun _ _ => rfl)) (hres _ _ _), hvars _ (fun _ _ => rfl), rfl, ?_, ?_⟩, ?_⟩
    · intro b off hp
      have hb : MemPlace.cell b off ∈ before := by rw [hps]; simpa using hp
      rw [hfz ⟨b, off, none⟩ (hlt _ hb)]
      exact hz b off hb
    · intro ha
      have := hn ha
      rw [hps] at this
      simpa using this
    · intro p hp _
      rw [hps]
      simpa using hp
theorem law_contractG {X : Env} (hmix : X.P.follows .mixedOrders = true) (hext : ExtOk X) (hints : ∀ W : World, W.ShapedOpen X.P → ∀ g ∈ X.ints, ∃ k : Int, W.cell? ⟨g, 0, none⟩ = some (.int .i64 k))
    {f : FuncId} {fn : Func} {n : Nat} (hts : fn.params.toList.all (fun t => plainT X.P n t) = true) (hrd : fn.params.toList.all (fun t => X.P.readableRec t && decide (t < X.P.types.size)) = true) (hl : laidOutB X.P = true)
    {tb : TypeId} (hres : fn.resultTypes = #[tb]) (htb : X.P.underlying tb = some .bool) {s : ChangeSpec} (hv : s.vars = [])
    (hs : ∀ (H : Type) (ds : List (DataW H)), ds.length = fn.params.toList.length → s.fn H ds = { results := [.lit (.bool true)], args := ds })
    (B : Nat) (hruns : ∀ us, Typs X.P B n fn.params.toList us → Runs X f us (.ret (.bool true)))
    (H : Type) (enc : TypeId × Value → H) (W : World) (base : Nat) (args : Array Value) (ds gs : List (DataW H)) (before : List MemPlace)
    (hval : ∀ (j : Nat) t v, fn.params[j]? = some t → args[j]? = some v → Value.okWide X.P W .any base t v)
    (hW : DataW.Whole enc X.P fn.params.toList s.vars false W args.toList ds gs before) (hsh : W.ShapedOpen X.P) (hgl : ∀ g v ty, X.glob g = some (v, ty) → ∃ xs : Nat → Value, ∀ (c : Nat) (u : V), v.cells[c]? = some u → W.cell? ⟨g, c, none⟩ = some (xs c) ∧ allI W g c ∧ (xs c).oneCell' = true ∧ RelP (allI W) W u (xs c)) {ok : DataW H → Prop} (hc : CapOk H B ok) (hok : ∀ d ∈ ds, ok d) :
    Calls X.P f args W fun e W' => ∃ v, e = .returned v ∧ s.post enc X.P fn false true false false W args v W' := by
  have hW' := hW
  obtain ⟨p, q, hA, hV, rfl, hfz, hnd⟩ := hW
  rw [hv] at hV
  obtain ⟨rfl, rfl⟩ := trodVars_none hV
  have hlt : ∀ x ∈ p, x.block < W.heap.size := fun x hx => by simpa using hW'.lt x (List.mem_append_left _ hx)
  obtain ⟨us, h1, h2, h3⟩ := args_rel hc (base := base) hA hts (fun j t v ht hv' => hval j t v (by simpa using ht) (by simpa using hv')) hok
  have hg : GlobOk X (allI W) W := ⟨fun g hg => by
    obtain ⟨k, hk⟩ := hints W hsh g hg
    exact ⟨k, hk, (cell?_spot hk).2⟩, hgl⟩
  have hc := calls_true hmix hext (hruns us h1) (I := allI W) (w := W) (xs := args.toList) (fun b o h => h) hg h2
  refine Calls.mono hc fun e W' ⟨he, hgr, hb⟩ => ?_
  subst he
  have hsp := hs H ds h3
  refine ⟨_, rfl, post_of_old (pa := p) (pv := []) hW' ?_ ?_ ?_ rfl (hgr.frame _) hgr.2.1 (ok_one hres rfl (okWide_bool_mk htb _))⟩
  · intro b spr hdd
    rw [List.append_nil, hsp, hres]
    exact trodAll_cons_mk (shut_bool htb _) trodAll_mk0
  · intro spr hspr
    rw [List.append_nil, hsp]
    exact args_stay hl hb hA hrd hlt (fun x hx => hspr x (by simpa using hx))
  · intro spr _
    rw [hv, List.append_nil, hsp]
    rfl
theorem law_contractB {X : Env} (hmix : X.P.follows .mixedOrders = true) (hext : ExtOk X) (hglob : ∀ g, X.glob g = none) (hints : ∀ W : World, W.ShapedOpen X.P → ∀ g ∈ X.ints, ∃ k : Int, W.cell? ⟨g, 0, none⟩ = some (.int .i64 k))
    {f : FuncId} {fn : Func} {n : Nat} (hts : fn.params.toList.all (fun t => plainT X.P n t) = true) (hrd : fn.params.toList.all (fun t => X.P.readableRec t && decide (t < X.P.types.size)) = true) (hl : laidOutB X.P = true)
    {tb : TypeId} (hres : fn.resultTypes = #[tb]) (htb : X.P.underlying tb = some .bool) {s : ChangeSpec} (hv : s.vars = [])
    (hs : ∀ (H : Type) (ds : List (DataW H)), ds.length = fn.params.toList.length → s.fn H ds = { results := [.lit (.bool true)], args := ds })
    (B : Nat) (hruns : ∀ us, Typs X.P B n fn.params.toList us → Runs X f us (.ret (.bool true)))
    (H : Type) (enc : TypeId × Value → H) (W : World) (base : Nat) (args : Array Value) (ds gs : List (DataW H)) (before : List MemPlace)
    (hval : ∀ (j : Nat) t v, fn.params[j]? = some t → args[j]? = some v → Value.okWide X.P W .any base t v)
    (hW : DataW.Whole enc X.P fn.params.toList s.vars false W args.toList ds gs before) (hsh : W.ShapedOpen X.P) {ok : DataW H → Prop} (hc : CapOk H B ok) (hok : ∀ d ∈ ds, ok d) :
    Calls X.P f args W fun e W' => ∃ v, e = .returned v ∧ s.post enc X.P fn false true false false W args v W' :=
  law_contractG hmix hext hints hts hrd hl hres htb hv hs B hruns H enc W base args ds gs before hval hW hsh (fun g v ty h => by rw [hglob g] at h; simp at h) hc hok
theorem law_contract {X : Env} (hmix : X.P.follows .mixedOrders = true) (hext : ExtOk X) (hglob : ∀ g, X.glob g = none) (hints : ∀ W : World, W.ShapedOpen X.P → ∀ g ∈ X.ints, ∃ k : Int, W.cell? ⟨g, 0, none⟩ = some (.int .i64 k))
    {f : FuncId} {fn : Func} {n : Nat} (hts : fn.params.toList.all (fun t => plainT X.P n t) = true) (hrd : fn.params.toList.all (fun t => X.P.readableRec t && decide (t < X.P.types.size)) = true) (hl : laidOutB X.P = true)
    {tb : TypeId} (hres : fn.resultTypes = #[tb]) (htb : X.P.underlying tb = some .bool) {s : ChangeSpec} (hv : s.vars = [])
    (hs : ∀ (H : Type) (ds : List (DataW H)), ds.length = fn.params.toList.length → s.fn H ds = { results := [.lit (.bool true)], args := ds })
    (hruns : ∀ us, Typs X.P Go.maxLen n fn.params.toList us → Runs X f us (.ret (.bool true)))
    (H : Type) (enc : TypeId × Value → H) (W : World) (base : Nat) (args : Array Value) (ds gs : List (DataW H)) (before : List MemPlace)
    (hval : ∀ (j : Nat) t v, fn.params[j]? = some t → args[j]? = some v → Value.okWide X.P W .any base t v)
    (hW : DataW.Whole enc X.P fn.params.toList s.vars false W args.toList ds gs before) (hsh : W.ShapedOpen X.P) :
    Calls X.P f args W fun e W' => ∃ v, e = .returned v ∧ s.post enc X.P fn false true false false W args v W' :=
  law_contractB hmix hext hglob hints hts hrd hl hres htb hv hs _ hruns H enc W base args ds gs before hval hW hsh (cap_all H) (fun _ _ => trivial)
end Go.Ev
namespace Go.Proofs.YtpocekfifokndaaDoor
open Go Go.Ev Go.Pl
open Go.ChangeShapes Go.WideShapes Go.ChangeAt Go.RowKit
theorem own : ownKnob Tryd.prog.godebug = none := by kernel_rfl
theorem mixed : Tryd.prog.follows .mixedOrders = true := by kernel_rfl
theorem laidOut : laidOutB Tryd.prog = true := by kernel_rfl
theorem ints_ok (W : World) (h : W.ShapedOpen X.P) : ∀ g ∈ X.ints, ∃ k : Int, W.cell? ⟨g, 0, none⟩ = some (.int .i64 k) := by
  intro g hg
  have e : g = 1 := by simpa [X] using hg
  subst e
  exact Go.Proofs.cell_of_shapedOpen_int (P := Tryd.prog) (zero := #[.int .i64 0]) (t := 3) h (of_decide_eq_true (by kernel_rfl)) (by kernel_rfl) rfl (by kernel_rfl) (by kernel_rfl) Tryd.underlying3
def cellsD : Nat → DataW Unit → List Value
  | _ + 1, .lit (.int k z) => [.int k z]
  | n + 1, .agg l => l.flatMap (cellsD n)
  | _, _ => []
def layAt (g : Nat) (d : DataW Unit) (h : Array Obj) : Array Obj := h.modify g fun
  | .cells _ t frozen => .cells (cellsD 4 d).toArray t frozen
  | o => o
noncomputable def laidWorld (os : Os) : World :=
  { World.holding Tryd.prog os ⟨#[], #[], []⟩ with heap := layAt 0 Rows.laid_bulla_metro_zero (layAt 2 Rows.laid_internal_strconv_uint64pow10 (layAt 3 Rows.laid_unicode_utf8_first (layAt 4 Rows.laid_unicode_utf8_acceptRanges
      (layAt 5 Rows.laid_math_bits_deBruijn32tab (layAt 6 Rows.laid_math_bits_deBruijn64tab (World.holding Tryd.prog os ⟨#[], #[], []⟩).heap))))) }
set_option maxRecDepth 100000
theorem typ3 {B n : Nat} {u : V} (h : Typ X.P B (n + 1) 3 u) : ∃ i : Int, u = vi i ∧ -9223372036854775808 ≤ i ∧ i ≤ 9223372036854775807 := by
  simp only [Typ, X_P, Tryd.underlying3] at h
  obtain ⟨i, rfl, hi⟩ := h
  refine ⟨i, rfl, ?_⟩
  simpa [Lit.wf, IntKind.min, IntKind.max, IntKind.signed, IntKind.bits] using hi
theorem typ9 {B n : Nat} {u : V} (h : Typ X.P B (n + 1) 9 u) : ∃ s : List UInt8, u = .str s ∧ s.length ≤ B := by
  simp only [Typ, X_P, Tryd.underlying9] at h
  exact h
theorem typ_ints {B n : Nat} : ∀ {es : List V}, (∀ u ∈ es, Typ X.P B (n + 1) 3 u) → ∃ a : List Int, es = ints a ∧ ∀ i ∈ a, -9223372036854775808 ≤ i ∧ i ≤ 9223372036854775807
  | [], _ => ⟨[], rfl, fun i h => by simp at h⟩
  | u :: es, h => by
    obtain ⟨i, rfl, hi⟩ := typ3 (h u (by simp))
    obtain ⟨a, rfl, ha⟩ := typ_ints (es := es) (fun u hu => h u (List.mem_cons_of_mem _ hu))
    refine ⟨i :: a, rfl, fun j hj => ?_⟩
    rcases List.mem_cons.1 hj with rfl | hj
    · exact hi
    · exact ha j hj
theorem typ22 {B n : Nat} {u : V} (h : Typ X.P B (n + 2) 22 u) : ∃ a : List Int, u = .sl (ints a) ∧ a.length ≤ B := by
  rw [Typ] at h
  simp only [X_P, Tryd.underlying22] at h
  obtain ⟨es, rfl, hl, hes⟩ := h
  obtain ⟨a, rfl, _⟩ := typ_ints hes
  exact ⟨a, rfl, by simpa [ints] using hl⟩
end Go.Proofs.YtpocekfifokndaaDoor
namespace Go.Proofs.YtpocekfifokndaaDoor
open Go Go.Ev Go.Pl
set_option maxRecDepth 100000
theorem typ32 {B n : Nat} {u : V} (h : Typ X.P B (n + 2) 32 u) : ∃ a b c : Int, u = .agg [vi a, vi b, vi c] := by
  rw [Typ] at h
  simp only [X_P, Tryd.underlying32] at h
  obtain ⟨us, rfl, hl, hu⟩ := h
  match us, hl with
  | [x, y, z], _ =>
    obtain ⟨a, rfl, _⟩ := typ3 (hu x (by simp))
    obtain ⟨b, rfl, _⟩ := typ3 (hu y (by simp))
    obtain ⟨c, rfl, _⟩ := typ3 (hu z (by simp))
    exact ⟨a, b, c, rfl⟩
end Go.Proofs.YtpocekfifokndaaDoor
namespace Go.Ev
theorem typs1 {P : Program} {B n : Nat} {a : TypeId} {us : List V} (h : Typs P B n [a] us) : ∃ u, us = [u] ∧ Typ P B n a u := by
  match us, h with
  | [u], h => exact ⟨u, rfl, h.1⟩
theorem typs2 {P : Program} {B n : Nat} {a b : TypeId} {us : List V} (h : Typs P B n [a, b] us) : ∃ u v, us = [u, v] ∧ Typ P B n a u ∧ Typ P B n b v := by
  match us, h with
  | [u, v], h => exact ⟨u, v, rfl, h.1, h.2.1⟩
theorem typs3 {P : Program} {B n : Nat} {a b c : TypeId} {us : List V} (h : Typs P B n [a, b, c] us) : ∃ u v w, us = [u, v, w] ∧ Typ P B n a u ∧ Typ P B n b v ∧ Typ P B n c w := by
  match us, h with
  | [u, v, w], h => exact ⟨u, v, w, rfl, h.1, h.2.1, h.2.2.1⟩
end Go.Ev
namespace Go.Proofs.YtpocekfifokndaaDoor
open Go Go.Ev
theorem bulk_pos {H : Type} (d : DataW H) : 1 ≤ Rows.uptoBulk d := by
  cases d with
  | lit l => cases l <;> simp [Rows.uptoBulk]
  | _ => simp [Rows.uptoBulk]
theorem bulk_mem {H : Type} {d : DataW H} : ∀ {l : List (DataW H)}, d ∈ l → Rows.uptoBulk d ≤ Rows.uptoBulkAll l
  | x :: r, h => by
    simp only [Rows.uptoBulkAll]
    rcases List.mem_cons.1 h with rfl | e
    · omega
    · have := bulk_mem e; omega
theorem bulk_len {H : Type} : ∀ l : List (DataW H), l.length ≤ Rows.uptoBulkAll l
  | [] => Nat.zero_le _
  | x :: r => by
    have h1 := bulk_len r
    have h2 := bulk_pos x
    simp only [Rows.uptoBulkAll, List.length_cons]; omega
theorem cap_upto (H : Type) : CapOk H 1048576 fun d => Rows.uptoBulk d ≤ 1048576 where
  str s _ h := by simp only [Rows.uptoBulk] at h; omega
  sl D sp _ h := by
    simp only [Rows.uptoBulk] at h
    have h1 := bulk_len D
    exact ⟨by omega, fun d hd => by have := bulk_mem hd; omega⟩
  agg l h d hd := by
    simp only [Rows.uptoBulk] at h
    have := bulk_mem hd
    omega
theorem upto_ok {H : Type} {ds gs : List (DataW H)} (h : Rows.uptoSmall H (ds ++ gs) = true) : ∀ d ∈ ds, Rows.uptoBulk d ≤ 1048576 := by
  intro d hd
  have h1 : Rows.uptoBulkAll (ds ++ gs) ≤ 1048576 := of_decide_eq_true h
  have h2 := bulk_mem (List.mem_append_left gs hd)
  omega
end Go.Proofs.YtpocekfifokndaaDoor
namespace Go.Proofs.YtpocekfifokndaaDoor
open Go
set_option maxRecDepth 100000
theorem j2 : (laidOutB Tryd.prog) = true := by kernel_rfl
theorem j3 : (mapsRowed Tryd.prog) = true := by kernel_rfl
theorem j7 : ((Tryd.prog.stops == [])) = true := by kernel_rfl
theorem j9 : ((Tryd.prog.stopKnobs == [])) = true := by kernel_rfl
theorem j23 : ((Rows.placeMulsRow.plainKeys == Tryd.prog.plainKeys)) = true := by kernel_rfl
theorem j25 : (Tryd.prog.stopsHeard) = true := by kernel_rfl
theorem m2 : true = Tryd.pinned.checked.prog.looks [] := by kernel_rfl
end Go.Proofs.YtpocekfifokndaaDoor
