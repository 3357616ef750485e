/- Part 6 of the proof: an evaluator of the program, proved sound against the model, and what the functions of the program compute. No condition but those each theorem states. -/
import Derived.Shelf.LaysM
import Derived.Shelf.Strings.Split
import Derived.Test.YtpocekfifokndaaDoorProg
import Derived.Test.YtpocekfifokndaaDoorG5
import Derived.Test.YtpocekfifokndaaDoorG1
import Derived.Lib.SplitLaws
import Derived.Deep.Slices
import Derived.Carry
import Derived.OpenShut
import Derived.ProofKit
import Derived.JoinedCond
import Derived.Deep.DeepHandedRow
import Derived.Test.YtpocekfifokndaaDoorCards
import Derived.Test.YtpocekfifokndaaDoorTie
import Derived.KernelRfl
import Derived.JoinedOf
import Derived.SevenTiedAt
set_option linter.unusedSimpArgs false
set_option linter.unusedVariables false
namespace Go.Proofs.YtpocekfifokndaaDoor
open Go Go.Shelf
def lays146_ren : Go.Shelf.Ren := ⟨fun | 146 => 91 | 221 => 136 | 268 => 151 | 138 => 152 | 143 => 153 | 195 => 159 | 197 => 160 | 218 => 161 | 219 => 162 | 260 => 171 | 217 => 172 | 225 => 173 | 224 => 174 | 267 => 175 | 266 => 181 | 314 => 182 | n => n, fun | 9 => 9 | 31 => 94 | 3 => 3 | 4 => 4 | 0 => 0 | 105 => 181 | 21 => 21 | 5 => 5 | 46 => 195 | 119 => 201 | 139 => 204 | 138 => 203 | 146 => 205 | 51 => 198 | n => n, fun | 1 => 1 | 3 => 3 | 4 => 4 | n => n⟩
theorem lays146 : Go.Proofs.Lays.n146 Tryd.prog lays146_ren := {
  mixed := by kernel_rfl
  f138 := Tryd.func152.trans (congrArg some (by kernel_rfl))
  f143 := Tryd.func153.trans (congrArg some (by kernel_rfl))
  f146 := Tryd.func91.trans (congrArg some (by kernel_rfl))
  f195 := Tryd.func159.trans (congrArg some (by kernel_rfl))
  f197 := Tryd.func160.trans (congrArg some (by kernel_rfl))
  f217 := Tryd.func172.trans (congrArg some (by kernel_rfl))
  f218 := Tryd.func161.trans (congrArg some (by kernel_rfl))
  f219 := Tryd.func162.trans (congrArg some (by kernel_rfl))
  f221 := Tryd.func136.trans (congrArg some (by kernel_rfl))
  f224 := Tryd.func174.trans (congrArg some (by kernel_rfl))
  f225 := Tryd.func173.trans (congrArg some (by kernel_rfl))
  f260 := Tryd.func171.trans (congrArg some (by kernel_rfl))
  f266 := Tryd.func181.trans (congrArg some (by kernel_rfl))
  f267 := Tryd.func175.trans (congrArg some (by kernel_rfl))
  f268 := Tryd.func151.trans (congrArg some (by kernel_rfl))
  f314 := Tryd.func182.trans (congrArg some (by kernel_rfl))
  t0 := Tryd.underlying0
  a0 := Tryd.isAgg0
  z0 := Tryd.sizeOf0
  v0 := Tryd.zeroValue0
  t3 := Tryd.underlying3
  a3 := Tryd.isAgg3
  z3 := Tryd.sizeOf3
  v3 := Tryd.zeroValue3
  t4 := Tryd.underlying4
  a4 := Tryd.isAgg4
  z4 := Tryd.sizeOf4
  v4 := Tryd.zeroValue4
  t5 := Tryd.underlying5
  a5 := Tryd.isAgg5
  z5 := Tryd.sizeOf5
  v5 := Tryd.zeroValue5
  t9 := Tryd.underlying9
  a9 := Tryd.isAgg9
  z9 := Tryd.sizeOf9
  v9 := Tryd.zeroValue9
  t21 := Tryd.underlying21
  a21 := Tryd.isAgg21
  z21 := Tryd.sizeOf21
  v21 := Tryd.zeroValue21
  t31 := Tryd.underlying94
  a31 := Tryd.isAgg94
  z31 := Tryd.sizeOf94
  v31 := Tryd.zeroValue94
  t46 := Tryd.underlying195
  a46 := Tryd.isAgg195
  z46 := Tryd.sizeOf195
  v46 := Tryd.zeroValue195
  t51 := Tryd.underlying198
  a51 := Tryd.isAgg198
  z51 := Tryd.sizeOf198
  v51 := Tryd.zeroValue198
  t105 := Tryd.underlying181
  a105 := Tryd.isAgg181
  z105 := Tryd.sizeOf181
  v105 := Tryd.zeroValue181
  t119 := Tryd.underlying201
  a119 := Tryd.isAgg201
  z119 := Tryd.sizeOf201
  t138 := Tryd.underlying203
  a138 := Tryd.isAgg203
  z138 := Tryd.sizeOf203
  v138 := Tryd.zeroValue203
  t139 := Tryd.underlying204
  a139 := Tryd.isAgg204
  z139 := Tryd.sizeOf204
  v139 := Tryd.zeroValue204
  t146 := Tryd.underlying205
  a146 := Tryd.isAgg205
  z146 := Tryd.sizeOf205
  v146 := Tryd.zeroValue205
  g1 := by kernel_rfl
  g3 := by kernel_rfl
  g4 := by kernel_rfl }
open Go.RowKit Go.Lib in
theorem lib_Split (s sep : ByteArray) (m : Int) (w : World) (hs : s.size < 4294967281) (hm : w.cell? ⟨1, 0, none⟩ = some (.int .i64 m)) (h1 : 1 ≤ sep.size) :
    Calls Tryd.prog 91 #[.string s, .string sep] w fun e w' =>
      e = .returned (.slice (some ⟨w.heap.size, 0, none⟩) (Lib.countB s sep + 1) (Lib.countB s sep + 1)) ∧ w' = w.alloc (.cells ((Lib.splitB sep 0 (Lib.countB s sep) s).map Value.string).toArray 9) := Any.strings_Split lays146 (by kernel_rfl) s sep m w hs hm h1
end Go.Proofs.YtpocekfifokndaaDoor
namespace Go.Proofs.YtpocekfifokndaaDoor
open Go Go.Ev Go.Pl
theorem index_cons_ne {b c : UInt8} (l : List UInt8) (h : b ≠ c) : Lib.index (b :: l) [c] = if Lib.index l [c] == -1 then -1 else Lib.index l [c] + 1 := by
  have hp : ([c] : List UInt8).isPrefixOf (b :: l) = false := by simp [List.isPrefixOf, Ne.symm h]
  rw [Lib.index, hp]; simp
theorem index_cons_eq (c : UInt8) (l : List UInt8) : Lib.index (c :: l) [c] = 0 := by rw [Lib.index]; simp [List.isPrefixOf]
theorem split_lib (c : UInt8) : ∀ l : List UInt8, Lib.splitK [c] 0 (Lib.count l [c]) l = splitB c l
  | [] => by
    rw [Lib.count_one, List.count_nil]; rfl
  | b :: l => by
    have ih := split_lib c l
    by_cases h : b = c
    · subst h
      rw [Lib.count_cons_eq, Nat.add_comm, Lib.splitK, index_cons_eq, if_neg (by decide)]
      simp only [Int.toNat_zero, Nat.zero_add, List.take_zero, List.length_cons, List.length_nil, List.drop_succ_cons, List.drop_zero]
      rw [ih]
      simp [splitB]
    · rw [Lib.count_cons_ne b c l h]
      cases hk : Lib.count l [c] with
      | zero =>
        rw [hk] at ih
        simp only [Lib.splitK] at ih ⊢
        rw [splitB, if_neg h, ← ih]
      | succ k =>
        rw [hk] at ih
        simp only [Lib.splitK] at ih ⊢
        rw [splitB, if_neg h, ← ih, index_cons_ne l h]
        have hge := Lib.index_ge l [c]
        by_cases hm : Lib.index l [c] = -1
        · rw [hm]; simp
        · have e1 : ¬ ((Lib.index l [c] == -1) = true) := fun e => hm (beq_iff_eq.1 e)
          rw [if_neg e1, if_neg e1]
          have e2 : ¬ ((Lib.index l [c] + 1 == -1) = true) := fun e => by have := beq_iff_eq.1 e; omega
          rw [if_neg e2]
          have e3 : (Lib.index l [c] + 1).toNat = (Lib.index l [c]).toNat + 1 := by omega
          rw [e3]
          simp only [Nat.add_zero, List.take_succ_cons, List.length_cons, List.length_nil, Nat.zero_add]
          rw [show (Lib.index l [c]).toNat + 1 + 1 = ((Lib.index l [c]).toNat + 1) + 1 from rfl, List.drop_succ_cons]
theorem all2_two {R : V → Value → Prop} {a b : V} {xs : List Value} (h : All2 R [a, b] xs) : ∃ x y, xs = [x, y] ∧ R a x ∧ R b y := by
  obtain ⟨hl, hr⟩ := h
  match xs, hl with
  | [x, y], _ => exact ⟨x, y, rfl, hr 0 _ _ rfl rfl, hr 1 _ _ rfl rfl⟩
theorem split_rel {I : Imm} {w : World} {s : List UInt8} (hold : ∀ b o, I b o → b < w.heap.size) {m : Int} (hm : w.cell? ⟨1, 0, none⟩ = some (.int .i64 m)) (hs : s.length < 4294967281) :
    Calls Tryd.prog 91 #[.string ⟨s.toArray⟩, .string ⟨#[58]⟩] w (FnPost Tryd.prog I w (fun _ => none) [] (.ret (.sl ((splitB 58 s).map .str)), [])) := by
  have hsz : (⟨s.toArray⟩ : ByteArray).size = s.length := by simp [ByteArray.size]
  refine (lib_Split ⟨s.toArray⟩ ⟨#[58]⟩ m w (by rw [hsz]; exact hs) hm (by decide)).mono fun e w' ⟨he, hw⟩ => ?_
  have hd : (Lib.splitB ⟨#[58]⟩ 0 (Lib.countB ⟨s.toArray⟩ ⟨#[58]⟩) ⟨s.toArray⟩).map (fun x => x.data.toList) = splitB 58 s := by
    rw [Lib.splitB_data, ← split_lib]
  have hlen : (splitB 58 s).length = Lib.countB ⟨s.toArray⟩ ⟨#[58]⟩ + 1 := by
    rw [← hd, List.length_map]
    exact Lib.splitB_all ⟨#[58]⟩ (by decide) 0 _ _ rfl
  have hcells : (Lib.splitB ⟨#[58]⟩ 0 (Lib.countB ⟨s.toArray⟩ ⟨#[58]⟩) ⟨s.toArray⟩).map Value.string = (splitB 58 s).map (fun x => Value.string ⟨x.toArray⟩) := by
    rw [← hd, List.map_map]
    refine List.map_congr_left fun x _ => ?_
    simp
  rw [hcells] at hw
  rw [← hlen] at he
  subst he
  subst hw
  generalize splitB 58 s = L
  refine ⟨fun b o => I b o ∨ b = w.heap.size, fun _ => none, usedB w fun _ => none, ?_, fun _ => rfl, rfl, ?_⟩
  · exact
      { imm := fun _ _ h => .inl h
        cell := fun b o x hI hx => by rw [World.cell?_alloc_old _ _ _ (Nat.ne_of_lt (hold b o hI))]; exact hx
        phi := fun _ _ h => h
        hsize := by
          show w.heap.size ≤ (w.heap.push _).size
          rw [Array.size_push]; omega
        os := rfl, tape := rfl, output := rfl
        block := fun b hb _ => heap_alloc_lt hb
        fresh := fun r l h => by simp at h
        immNew := fun b o h => h.elim .inl fun h => .inr (.inr (by rw [h]; exact Nat.le_refl _))
        plain := fun b hb x hx => by
          rcases heap_alloc_cases hx with ⟨_, h⟩ | h
          · exact ⟨_, _, h⟩
          · exact hb x h
        old := fun h b o hI => by
          have : (w.alloc (.cells ((L.map fun x => Value.string ⟨x.toArray⟩)).toArray 9)).heap.size = w.heap.size + 1 := by
            show (w.heap.push _).size = _
            rw [Array.size_push]
          rw [this]
          rcases hI with h' | h'
          · have := h b o h'; omega
          · omega }
  · refine .one (fun _ e => by cases e) (.one rfl (.rel (.p ?_) rfl))
    have key := RelP.sl (I := fun b o => I b o ∨ b = w.heap.size) (w := w.alloc (.cells ((L.map fun x => Value.string ⟨x.toArray⟩)).toArray 9)) (es := L.map V.str) (b := w.heap.size) (o := 0) (z := 1) (cap := L.length)
      (fun j _ => Value.string ⟨(L.getD j []).toArray⟩) (by simp) (fun j e he => by
        rw [List.getElem?_map] at he
        cases hx : L[j]? with
        | none => rw [hx] at he; simp at he
        | some x => rw [hx] at he; simp at he; subst he; rfl)
      (fun j e c v he hc => by
        rw [List.getElem?_map] at he
        cases hx : L[j]? with
        | none => rw [hx] at he; simp at he
        | some x =>
          rw [hx] at he; simp at he; subst he
          have hc0 : c = 0 := by cases c with | zero => rfl | succ c => simp [V.cells] at hc
          subst hc0
          refine ⟨?_, .inr rfl, rfl⟩
          rw [World.cell?_alloc_at _ _ _ _ rfl]
          simp [hx])
      (fun j e c v he hc => by
        rw [List.getElem?_map] at he
        cases hx : L[j]? with
        | none => rw [hx] at he; simp at he
        | some x =>
          rw [hx] at he; simp at he; subst he
          have hc0 : c = 0 := by cases c with | zero => rfl | succ c => simp [V.cells] at hc
          subst hc0
          simp [V.cells] at hc
          subst hc
          rw [List.getD_eq_getElem?_getD, hx]
          exact .str _)
    rw [List.length_map] at key
    exact key
theorem ext_ok : ExtOk X := by
  intro f args v h I w xs hold hg ha
  change extF f args = some v at h
  unfold extF at h
  split at h
  · rename_i hf
    subst hf
    split at h
    · rename_i s
      split at h
      · rename_i hs
        injection h with h
        subst h
        obtain ⟨x, y, rfl, hx, hy⟩ := all2_two ha
        cases hx
        cases hy
        obtain ⟨k, hk, _⟩ := hg.1 1 (by simp [X])
        exact split_rel hold hk hs
      · simp at h
    · simp at h
  · simp at h
end Go.Proofs.YtpocekfifokndaaDoor
namespace Go.Ev
open Go.Deep
def tiled (P : Program) : Nat → List Field → Option Nat
  | off, [] => some off
  | off, f :: fs => if f.offset = off then tiled P (off + P.cellsOf f.type) fs else none
def plainT (P : Program) : Nat → TypeId → Bool
  | 0, _ => false
  | n + 1, t =>
    match P.underlying t with
    | some .bool | some (.int _) | some .string => true
    | some (.slice e) => plainT P n e && decide (0 < P.cellsOf e)
    | some (.struct fs) => fs.toList.all (fun f => plainT P n f.type) && decide (tiled P 0 fs.toList = some (P.cellsOf t))
    | some (.array k e) => plainT P n e && decide (k * P.cellsOf e = P.cellsOf t)
    | _ => false
def Typ (P : Program) : Nat → TypeId → V → Prop
  | 0, _, _ => False
  | n + 1, t, v =>
    match P.underlying t with
    | some .bool => ∃ b, v = .bool b
    | some (.int k) => ∃ i, v = .int k i ∧ (Lit.int k i).wf = true
    | some .string => ∃ s, v = .str s ∧ s.length ≤ Go.maxLen
    | some (.slice e) => ∃ es, v = .sl es ∧ es.length ≤ Go.maxLen ∧ ∀ u ∈ es, Typ P n e u
    | some (.struct fs) => ∃ us : List V, v = .agg (us.flatMap V.cells) ∧ us.length = fs.size ∧ ∀ (i : Nat) (f : Field) (u : V), fs[i]? = some f → us[i]? = some u → Typ P n f.type u
    | some (.array k e) => ∃ us : List V, v = .agg (us.flatMap V.cells) ∧ us.length = k ∧ ∀ u ∈ us, Typ P n e u
    | _ => False
theorem width_cells (v : V) : v.cells.length = v.width := by cases v <;> rfl
def CellR (w : World) (u : V) (x : Value) : Prop := RelP (allI w) w u x ∧ x.oneCell' = true
section
variable {H : Type} {enc : TypeId × Value → H} {P : Program} {w : World} {sp : Nat → Bool} {hd : Bool}
theorem cells?_get {a : Addr} {n : Nat} {cs : List Value} (h : w.cells? 0 a n = some cs) : cs.length = n ∧ ∀ (i : Nat) (x : Value), cs[i]? = some x → w.cell? (a.add i) = some x := by
  obtain ⟨_, h1, h2⟩ := World.cells?_some h
  refine ⟨h1, fun i x hx => ?_⟩
  rw [h2 i (by rw [← h1]; exact (List.getElem?_eq_some_iff.1 hx).1), hx]
theorem cell?_spot {a : Addr} {x : Value} (h : w.cell? a = some x) : a.spot = none ∧ a.block < w.heap.size := by
  unfold World.cell? at h
  split at h
  · rename_i hb
    split at h
    · simp at h
    · rename_i hs
      refine ⟨by cases hq : a.spot with | none => rfl | some _ => rw [hq] at hs; simp at hs, ?_⟩
      exact (Array.getElem?_eq_some_iff.1 hb).1
  · simp at h
theorem typ_width {n : Nat} {t : TypeId} {v : V} (h : Typ P n t v) : v.transit = false ∧ (∀ vs, v ≠ .tup vs) := by
  cases n with
  | zero => exact h.elim
  | succ n =>
    simp only [Typ] at h
    split at h
    · obtain ⟨b, rfl⟩ := h; exact ⟨rfl, fun _ e => by cases e⟩
    · obtain ⟨b, rfl, _⟩ := h; exact ⟨rfl, fun _ e => by cases e⟩
    · obtain ⟨b, rfl, _⟩ := h; exact ⟨rfl, fun _ e => by cases e⟩
    · obtain ⟨b, rfl, _⟩ := h; exact ⟨rfl, fun _ e => by cases e⟩
    · obtain ⟨b, rfl, _⟩ := h; exact ⟨rfl, fun _ e => by cases e⟩
    · obtain ⟨b, rfl, _⟩ := h; exact ⟨rfl, fun _ e => by cases e⟩
    · exact h.elim
theorem all2_one {R : V → Value → Prop} {u : V} {x : Value} (h : R u x) : All2 R [u] [x] := All2.cons h All2.nil
theorem fields_all {n m : Nat} {cs : List Value}
    (ih : ∀ {fuel : Nat} {t : TypeId} {cs : List Value} {x : DataW H × List MemPlace}, plainT P n t = true → DataW.trod enc P w 0 sp hd fuel t cs = some x → ∃ v, Typ P n t v ∧ All2 (CellR w) v.cells cs) :
    ∀ (l : List Field) (off : Nat), tiled P off l = some cs.length → l.all (fun f => plainT P n f.type) = true →
      (∀ (i : Nat) (f : Field), l[i]? = some f → ∃ x, DataW.trod enc P w 0 sp hd m f.type ((cs.drop f.offset).take (P.cellsOf f.type)) = some x) →
      ∃ us : List V, us.length = l.length ∧ (∀ (i : Nat) (f : Field) (u : V), l[i]? = some f → us[i]? = some u → Typ P n f.type u) ∧ All2 (CellR w) (us.flatMap V.cells) (cs.drop off)
  | [], off, ht, _, _ => by
    simp only [tiled, Option.some.injEq] at ht
    refine ⟨[], rfl, fun i f u h => by simp at h, ?_⟩
    rw [ht, List.drop_length]; exact All2.nil
  | f :: l, off, ht, hp, hx => by
    simp only [tiled] at ht
    split at ht
    · rename_i ho
      simp only [List.all_cons, Bool.and_eq_true] at hp
      obtain ⟨x, hx0⟩ := hx 0 f rfl
      obtain ⟨v, h1, h2⟩ := ih hp.1 hx0
      obtain ⟨us, g1, g2, g3⟩ := fields_all ih l (off + P.cellsOf f.type) ht hp.2 (fun i g hg => hx (i + 1) g (by simpa using hg))
      refine ⟨v :: us, by simp [g1], ?_, ?_⟩
      · intro i g u hg hu
        cases i with
        | zero => simp at hg hu; subst hg; subst hu; exact h1
        | succ i => exact g2 i g u (by simpa using hg) (by simpa using hu)
      · rw [List.flatMap_cons]
        have e : cs.drop off = (cs.drop f.offset).take (P.cellsOf f.type) ++ cs.drop (off + P.cellsOf f.type) := by
          rw [ho, ← List.drop_drop, List.take_append_drop]
        rw [e]
        exact All2.append h2 g3
    · simp at ht
theorem elems_all {n m z : Nat} {e : TypeId} {cs : List Value} (hz : P.cellsOf e = z) (he : plainT P n e = true)
    (ih : ∀ {fuel : Nat} {t : TypeId} {cs : List Value} {x : DataW H × List MemPlace}, plainT P n t = true → DataW.trod enc P w 0 sp hd fuel t cs = some x → ∃ v, Typ P n t v ∧ All2 (CellR w) v.cells cs) :
    ∀ (k i : Nat), (i + k) * z = cs.length → (∀ j, j < i + k → ∃ x, DataW.trod enc P w 0 sp hd m e ((cs.drop (j * z)).take z) = some x) →
      ∃ us : List V, us.length = k ∧ (∀ u ∈ us, Typ P n e u) ∧ All2 (CellR w) (us.flatMap V.cells) (cs.drop (i * z))
  | 0, i, hc, _ => by
    refine ⟨[], rfl, fun u h => by simp at h, ?_⟩
    rw [Nat.add_zero] at hc
    rw [hc, List.drop_length]; exact All2.nil
  | k + 1, i, hc, hx => by
    obtain ⟨x, hx0⟩ := hx i (by omega)
    obtain ⟨v, h1, h2⟩ := ih he hx0
    obtain ⟨us, g1, g2, g3⟩ := elems_all hz he ih k (i + 1) (by rw [← hc]; congr 1; omega) (fun j hj => hx j (by omega))
    refine ⟨v :: us, by simp [g1], ?_, ?_⟩
    · intro u hu
      rcases List.mem_cons.1 hu with rfl | hu
      · exact h1
      · exact g2 u hu
    · rw [List.flatMap_cons]
      have e : cs.drop (i * z) = (cs.drop (i * z)).take z ++ cs.drop ((i + 1) * z) := by
        rw [Nat.succ_mul, ← List.drop_drop, List.take_append_drop]
      rw [e]
      exact All2.append h2 g3
theorem open_plain : ∀ (n : Nat) {fuel : Nat} {t : TypeId} {cs : List Value} {x : DataW H × List MemPlace}, plainT P n t = true → DataW.trod enc P w 0 sp hd fuel t cs = some x →
    ∃ v, Typ P n t v ∧ All2 (CellR w) v.cells cs
  | 0, _, _, _, _, hp, _ => by simp [plainT] at hp
  | n + 1, fuel, t, cs, x, hp, h => by
    have ih := @open_plain n
    simp only [plainT] at hp
    simp only [Typ]
    split at hp
    · rename_i ht
      obtain ⟨b, rfl, _⟩ := DataW.trod_bool ht h
      exact ⟨.bool b, ⟨b, rfl⟩, all2_one ⟨.bool b, rfl⟩⟩
    · rename_i k ht
      obtain ⟨i, rfl, _, hw⟩ := DataW.trod_int ht h
      exact ⟨.int k i, ⟨i, rfl, hw⟩, all2_one ⟨.int k i, rfl⟩⟩
    · rename_i ht
      obtain ⟨s, rfl, _, hl⟩ := DataW.trod_string ht h
      refine ⟨.str s.data.toList, ⟨_, rfl, by rw [Array.length_toList]; exact hl⟩, all2_one ⟨?_, rfl⟩⟩
      have := RelP.str (I := allI w) (w := w) s.data.toList
      simpa using this
    · rename_i e ht
      simp only [Bool.and_eq_true, decide_eq_true_eq] at hp
      rcases open_slice ht h with ⟨rfl, _⟩ | ⟨a, len, cap, m, k, D, Pl, rfl, _, hlc, hcm, hm, _, hel⟩
      · exact ⟨.sl [], ⟨[], rfl, Nat.zero_le _, fun u hu => by simp at hu⟩, all2_one ⟨.slNil, rfl⟩⟩
      · have hlm : len ≤ m := by rw [hm]; split <;> omega
        have hex : ∀ i, i < len → ∃ p : V × List Value, w.cells? 0 (a.add (i * P.cellsOf e)) (P.cellsOf e) = some p.2 ∧ Typ P n e p.1 ∧ All2 (CellR w) p.1.cells p.2 := fun i hi => by
          obtain ⟨cs', h1, h2⟩ := hel i (by omega)
          obtain ⟨v, h3, h4⟩ := ih hp.1 h2
          exact ⟨(v, cs'), h1, h3, h4⟩
        haveI : Inhabited V := ⟨.undef⟩
        obtain ⟨f, hf⟩ := choose_lt hex
        refine ⟨.sl ((List.range len).map fun i => (f i).1), ?_, ?_⟩
        · refine ⟨_, rfl, by simp; omega, fun u hu => ?_⟩
          obtain ⟨i, hi, rfl⟩ := List.mem_map.1 hu
          exact (hf i (List.mem_range.1 hi)).2.1
        · refine all2_one ⟨?_, rfl⟩
          cases len with
          | zero => exact .slNil
          | succ len =>
            have hspot : a.spot = none := by
              obtain ⟨h1, h2, h3⟩ := hf 0 (Nat.succ_pos _)
              obtain ⟨h4, h5⟩ := cells?_get h1
              obtain ⟨y, hy⟩ : ∃ y, (f 0).2[0]? = some y := ⟨(f 0).2[0]'(by omega), by simp⟩
              have := cell?_spot (h5 0 y hy)
              simpa [Addr.add] using this.1
            obtain ⟨b, o, spot⟩ := a
            dsimp only at hspot
            subst hspot
            have hget : ∀ (j : Nat) (u : V), ((List.range (len + 1)).map fun i => (f i).1)[j]? = some u → j < len + 1 ∧ u = (f j).1 := fun j u hu => by
              rw [List.getElem?_map] at hu
              by_cases hj : j < len + 1
              · rw [List.getElem?_range hj] at hu
                simp only [Option.map_some, Option.some.injEq] at hu
                exact ⟨hj, hu.symm⟩
              · rw [List.getElem?_eq_none (by simp; omega)] at hu
                simp at hu
            have hcell : ∀ (j : Nat) (u : V) (c : Nat) (v : V), ((List.range (len + 1)).map fun i => (f i).1)[j]? = some u → u.cells[c]? = some v → ∃ y, (f j).2[c]? = some y ∧ w.cell? ⟨b, o + j * P.cellsOf e + c, none⟩ = some y ∧ CellR w v y := fun j u c v hu hv => by
              obtain ⟨hj, rfl⟩ := hget j u hu
              obtain ⟨h1, h2, h3⟩ := hf j hj
              obtain ⟨h4, h5⟩ := cells?_get h1
              obtain ⟨y, hy, hr⟩ := h3.get hv
              refine ⟨y, hy, ?_, hr⟩
              have := h5 c y hy
              rw [add_add] at this
              have e : (⟨b, o, none⟩ : Addr).add (j * P.cellsOf e + c) = ⟨b, o + j * P.cellsOf e + c, none⟩ := by
                unfold Addr.add
                split
                · rename_i h0; rw [Nat.add_assoc, h0]; rfl
                · rw [Nat.add_assoc]
              rw [e] at this
              exact this
            have key := RelP.sl (I := allI w) (w := w) (es := (List.range (len + 1)).map fun i => (f i).1) (b := b) (o := o) (z := P.cellsOf e) (cap := cap)
              (fun j c => ((f j).2[c]?).getD .nilIface) (by simp; omega) (fun j u hu => by
                obtain ⟨hj, rfl⟩ := hget j u hu
                obtain ⟨h1, h2, h3⟩ := hf j hj
                rw [← width_cells, h3.1, (cells?_get h1).1])
              (fun j u c v hu hv => by
                obtain ⟨y, hy, hc, hr⟩ := hcell j u c v hu hv
                rw [hy]
                exact ⟨hc, (cell?_spot hc).2, hr.2⟩)
              (fun j u c v hu hv => by
                obtain ⟨y, hy, hc, hr⟩ := hcell j u c v hu hv
                rw [hy]
                exact hr.1)
            rw [List.length_map, List.length_range] at key
            exact key
    · rename_i fs ht
      simp only [Bool.and_eq_true, decide_eq_true_eq] at hp
      obtain ⟨xs, m, rfl, _, hl, hxl, hx⟩ := DataW.trod_struct ht h
      obtain ⟨us, g1, g2, g3⟩ := fields_all (hd := hd) (sp := sp) (enc := enc) ih fs.toList 0 (by rw [hl]; exact hp.2) hp.1 (fun i f hf => by
        have hf' : fs[i]? = some f := by simpa using hf
        have hi : i < xs.length := by rw [hxl]; exact (Array.getElem?_eq_some_iff.1 hf').1
        exact ⟨xs[i], by rw [hx i f hf', List.getElem?_eq_getElem hi]⟩)
      refine ⟨.agg (us.flatMap V.cells), ?_, g3⟩
      exact ⟨us, rfl, by simpa using g1, fun i f u hf hu => g2 i f u (by simpa using hf) hu⟩
    · rename_i k e ht
      simp only [Bool.and_eq_true, decide_eq_true_eq] at hp
      obtain ⟨xs, m, rfl, _, hl, hxl, hx⟩ := DataW.trod_array ht h
      obtain ⟨us, g1, g2, g3⟩ := elems_all (hd := hd) (sp := sp) (enc := enc) (m := m) rfl hp.1 ih k 0 (by rw [Nat.zero_add, hl]; exact hp.2) (fun j hj => by
        have hj' : j < k := by omega
        exact ⟨xs[j]'(by omega), by rw [hx j hj', List.getElem?_eq_getElem]⟩)
      refine ⟨.agg (us.flatMap V.cells), ?_, by rw [Nat.zero_mul, List.drop_zero] at g3; exact g3⟩
      exact ⟨us, rfl, g1, g2⟩
    · simp at hp
end
end Go.Ev
namespace Go.Ev
open Go.ChangeShapes Go.WideShapes Go.ChangeAt Go.RowKit Go.Deep
theorem below_of {I I' : Imm} {w w' : World} {φ' : Phi} (h : Ext I w (fun _ => none) I' w' φ') : Below w.heap.size w w' :=
  ⟨h.os, h.tape, h.output, h.hsize, fun b hb => h.block b hb (fun r l hl => by simp at hl)⟩
theorem calls_true {X : Env} (hmix : X.P.follows .mixedOrders = true) (hext : ExtOk X) {f : FuncId} {args : List V} {b : Bool} (hr : Runs X f args (.ret (.bool b)))
    {I : Imm} {w : World} {xs : List Value} (hold : ∀ b o, I b o → b < w.heap.size) (hg : GlobOk X I w) (ha : All2 (RelP I w) args xs) :
    Calls X.P f ⟨xs⟩ w fun e w' => e = .returned (.bool b) ∧ Grown w w' ∧ Below w.heap.size w w' := by
  obtain ⟨out, k, e⟩ := hr
  refine Calls.mono (calls_of hmix hext e hold hg ha) (fun e w' h => ?_)
  obtain ⟨x, rfl, hgr, I', U', hx, hR⟩ := h
  refine ⟨?_, hgr, below_of hx⟩
  have := plain_rel (X := X) (I' := I') (w' := w') (φ' := fun _ => none) hR rfl
  rw [rel_bool this]
section
variable {H : Type} {enc : TypeId × Value → H} {P : Program} {w : World} {sp : Nat → Bool} {hd : Bool}
theorem arg_rel {n base : Nat} {t : TypeId} {v : Value} {d : DataW H} {ps : List MemPlace} (hp : plainT P n t = true) (hok : Value.okWide P w .any base t v) (h : DataW.Trod enc P w 0 sp hd t v d ps) :
    ∃ u, Typ P n t u ∧ RelP (allI w) w u v := by
  obtain ⟨fuel, hf⟩ := h
  obtain ⟨u, h1, h2⟩ := open_plain n hp hf
  refine ⟨u, h1, ?_⟩
  cases n with
  | zero => exact h1.elim
  | succ n =>
    have fin : ∀ x : Value, v = x → (u.cells = [u]) → v.cells.toList = [x] → RelP (allI w) w u v := by
      intro x hv hu hx
      rw [hu, hx] at h2
      rw [hv]; exact (h2.2 0 _ _ rfl rfl).1
    have finA : ∀ cs : Array Value, ∀ us, v = .agg cs → u = .agg us → RelP (allI w) w u v := by
      rintro cs us rfl rfl
      have h3 : All2 (CellR w) us cs.toList := h2
      exact .agg h3.1 (fun i a b ha hb => (h3.2 i a b ha hb).1) (fun x hx => by
        obtain ⟨i, hi, rfl⟩ := List.mem_iff_getElem.1 hx
        obtain ⟨y, hy⟩ : ∃ y, us[i]? = some y := ⟨us[i]'(by rw [h3.1]; exact hi), by simp⟩
        exact (h3.2 i y _ hy (List.getElem?_eq_getElem hi)).2)
    simp only [Typ] at h1
    split at h1
    · rename_i ht
      obtain ⟨b, rfl⟩ := okWide_bool ht hok
      obtain ⟨c, rfl⟩ := h1
      exact fin _ rfl rfl rfl
    · rename_i k ht
      obtain ⟨b, rfl⟩ := okWide_int ht hok
      obtain ⟨c, rfl, _⟩ := h1
      exact fin _ rfl rfl rfl
    · rename_i ht
      obtain ⟨b, rfl⟩ := okWide_string ht hok
      obtain ⟨c, rfl, _⟩ := h1
      exact fin _ rfl rfl rfl
    · rename_i e ht
      obtain ⟨a, l, c, rfl⟩ := okWide_slice ht hok
      obtain ⟨c, rfl, _⟩ := h1
      exact fin _ rfl rfl rfl
    · rename_i fs ht
      obtain ⟨us, rfl, _⟩ := h1
      simp only [Value.okWide, ht] at hok
      obtain ⟨cs, rfl, _⟩ := hok
      exact finA cs _ rfl rfl
    · rename_i k e ht
      obtain ⟨us, rfl, _⟩ := h1
      simp only [Value.okWide, ht] at hok
      obtain ⟨cs, rfl, _⟩ := hok
      exact finA cs _ rfl rfl
    · exact h1.elim
def Typs (P : Program) (n : Nat) : List TypeId → List V → Prop
  | [], [] => True
  | t :: ts, u :: us => Typ P n t u ∧ Typs P n ts us
  | _, _ => False
theorem args_rel {n base : Nat} : ∀ {ts : List TypeId} {vs : List Value} {ds : List (DataW H)} {ps : List MemPlace}, DataW.TrodAll enc P w 0 sp hd ts vs ds ps → ts.all (fun t => plainT P n t) = true →
    (∀ (j : Nat) t v, ts[j]? = some t → vs[j]? = some v → Value.okWide P w .any base t v) → ∃ us, Typs P n ts us ∧ All2 (RelP (allI w) w) us vs ∧ ds.length = ts.length
  | [], vs, ds, ps, h, _, _ => by
    obtain ⟨rfl, rfl, _⟩ := trodAll_nil h
    exact ⟨[], trivial, All2.nil, rfl⟩
  | t :: ts, vs, ds, ps, h, hp, hok => by
    obtain ⟨v, vs', d, ds', p, q, rfl, rfl, _, h1, h2⟩ := trodAll_cons h
    simp only [List.all_cons, Bool.and_eq_true] at hp
    obtain ⟨u, hu1, hu2⟩ := arg_rel hp.1 (hok 0 t v rfl rfl) h1
    obtain ⟨us, hs1, hs2, hs3⟩ := args_rel h2 hp.2 (fun j t v ht hv => hok (j + 1) t v (by simpa using ht) (by simpa using hv))
    exact ⟨u :: us, ⟨hu1, hs1⟩, All2.cons hu2 hs2, by simp [hs3]⟩
theorem args_stay {w' : World} {spr : Nat → Bool} (hl : laidOutB P = true) (hb : Below w.heap.size w w') : ∀ {ts : List TypeId} {vs : List Value} {ds : List (DataW H)} {ps : List MemPlace},
    DataW.TrodAll enc P w 0 (fun _ => true) true ts vs ds ps → ts.all (fun t => P.readableRec t && decide (t < P.types.size)) = true → (∀ x ∈ ps, x.block < w.heap.size) → (∀ x ∈ ps, spr x.block = true) →
    DataW.TrodAll enc P w' 0 spr true ts vs ds ps
  | [], vs, ds, ps, h, _, _, _ => by
    obtain ⟨rfl, rfl, rfl⟩ := trodAll_nil h
    exact trodAll_mk0
  | t :: ts, vs, ds, ps, h, hp, hlt, hsp => by
    obtain ⟨v, vs', d, ds', p, q, rfl, rfl, rfl, h1, h2⟩ := trodAll_cons h
    simp only [List.all_cons, Bool.and_eq_true, decide_eq_true_eq] at hp
    exact trodAll_cons_mk (WideElems.Trod_stays hl hp.1.1 hp.1.2 h1 (fun x hx => hb.same (hlt x (List.mem_append_left _ hx))) (fun x hx => hsp x (List.mem_append_left _ hx)))
      (args_stay hl hb h2 (by simpa using hp.2) (fun x hx => hlt x (List.mem_append_right _ hx)) (fun x hx => hsp x (List.mem_append_right _ hx)))
end
theorem law_contract {X : Env} (hmix : X.P.follows .mixedOrders = true) (hext : ExtOk X) (hglob : ∀ g, X.glob g = none) (hints : ∀ W : World, W.ShapedOpen X.P → ∀ g ∈ X.ints, ∃ k : Int, W.cell? ⟨g, 0, none⟩ = some (.int .i64 k))
    {f : FuncId} {fn : Func} {n : Nat} (hts : fn.params.toList.all (fun t => plainT X.P n t) = true) (hrd : fn.params.toList.all (fun t => X.P.readableRec t && decide (t < X.P.types.size)) = true) (hl : laidOutB X.P = true)
    {tb : TypeId} (hres : fn.resultTypes = #[tb]) (htb : X.P.underlying tb = some .bool) {s : ChangeSpec} (hv : s.vars = [])
    (hs : ∀ (H : Type) (ds : List (DataW H)), ds.length = fn.params.toList.length → s.fn H ds = { results := [.lit (.bool true)], args := ds })
    (hruns : ∀ us, Typs X.P n fn.params.toList us → Runs X f us (.ret (.bool true)))
    (H : Type) (enc : TypeId × Value → H) (W : World) (base : Nat) (args : Array Value) (ds gs : List (DataW H)) (before : List MemPlace)
    (hval : ∀ (j : Nat) t v, fn.params[j]? = some t → args[j]? = some v → Value.okWide X.P W .any base t v)
    (hW : DataW.Whole enc X.P fn.params.toList s.vars false W args.toList ds gs before) (hsh : W.ShapedOpen X.P) :
    Calls X.P f args W fun e W' => ∃ v, e = .returned v ∧ s.post enc X.P fn false true false false W args v W' := by
  have hW' := hW
  obtain ⟨p, q, hA, hV, rfl, hfz, hnd⟩ := hW
  rw [hv] at hV
  obtain ⟨rfl, rfl⟩ := trodVars_none hV
  have hlt : ∀ x ∈ p, x.block < W.heap.size := fun x hx => by simpa using hW'.lt x (List.mem_append_left _ hx)
  obtain ⟨us, h1, h2, h3⟩ := args_rel (base := base) hA hts (fun j t v ht hv' => hval j t v (by simpa using ht) (by simpa using hv'))
  have hg : GlobOk X (allI W) W := ⟨fun g hg => by
    obtain ⟨k, hk⟩ := hints W hsh g hg
    exact ⟨k, hk, (cell?_spot hk).2⟩, fun g v ty h => by rw [hglob g] at h; simp at h⟩
  have hc := calls_true hmix hext (hruns us h1) (I := allI W) (w := W) (xs := args.toList) (fun b o h => h) hg h2
  refine Calls.mono hc fun e W' ⟨he, hgr, hb⟩ => ?_
  subst he
  have hsp := hs H ds h3
  refine ⟨_, rfl, post_of_same (pa := p) (pv := []) hW' ?_ ?_ ?_ rfl (hgr.frame _) hgr.2.1 (ok_one hres rfl (okWide_bool_mk htb _))⟩
  · intro b spr hdd
    rw [List.append_nil, hsp, hres]
    exact trodAll_cons_mk (shut_bool htb _) trodAll_mk0
  · intro spr hspr
    rw [List.append_nil, hsp]
    exact args_stay hl hb hA hrd hlt (fun x hx => hspr x (by simpa using hx))
  · intro spr _
    rw [hv, List.append_nil, hsp]
    rfl
end Go.Ev
namespace Go.Proofs.YtpocekfifokndaaDoor
open Go Go.Ev Go.Pl
open Go.ChangeShapes Go.WideShapes Go.ChangeAt Go.RowKit
theorem own : ownKnob Tryd.prog.godebug = none := by kernel_rfl
theorem mixed : Tryd.prog.follows .mixedOrders = true := by kernel_rfl
theorem laidOut : laidOutB Tryd.prog = true := by kernel_rfl
theorem ints_ok (W : World) (h : W.ShapedOpen X.P) : ∀ g ∈ X.ints, ∃ k : Int, W.cell? ⟨g, 0, none⟩ = some (.int .i64 k) := by
  intro g hg
  have e : g = 1 := by simpa [X] using hg
  subst e
  exact Go.Proofs.cell_of_shapedOpen_int (P := Tryd.prog) (zero := #[.int .i64 0]) (t := 3) h (of_decide_eq_true (by kernel_rfl)) (by kernel_rfl) rfl (by kernel_rfl) (by kernel_rfl) Tryd.underlying3
def cellsD : Nat → DataW Unit → List Value
  | _ + 1, .lit (.int k z) => [.int k z]
  | n + 1, .agg l => l.flatMap (cellsD n)
  | _, _ => []
def layAt (g : Nat) (d : DataW Unit) (h : Array Obj) : Array Obj := h.modify g fun
  | .cells _ t frozen => .cells (cellsD 4 d).toArray t frozen
  | o => o
noncomputable def laidWorld (os : Os) : World :=
  { World.holding Tryd.prog os ⟨#[], #[], []⟩ with heap := layAt 0 Rows.laid_bulla_metro_zero (layAt 2 Rows.laid_internal_strconv_uint64pow10 (layAt 3 Rows.laid_unicode_utf8_first (layAt 4 Rows.laid_unicode_utf8_acceptRanges
      (layAt 5 Rows.laid_math_bits_deBruijn32tab (layAt 6 Rows.laid_math_bits_deBruijn64tab (World.holding Tryd.prog os ⟨#[], #[], []⟩).heap))))) }
set_option maxRecDepth 100000
theorem typ3 {n : Nat} {u : V} (h : Typ X.P (n + 1) 3 u) : ∃ i : Int, u = vi i ∧ -9223372036854775808 ≤ i ∧ i ≤ 9223372036854775807 := by
  simp only [Typ, X_P, Tryd.underlying3] at h
  obtain ⟨i, rfl, hi⟩ := h
  refine ⟨i, rfl, ?_⟩
  simpa [Lit.wf, IntKind.min, IntKind.max, IntKind.signed, IntKind.bits] using hi
theorem typ9 {n : Nat} {u : V} (h : Typ X.P (n + 1) 9 u) : ∃ s : List UInt8, u = .str s ∧ s.length ≤ Go.maxLen := by
  simp only [Typ, X_P, Tryd.underlying9] at h
  exact h
theorem typ_ints {n : Nat} : ∀ {es : List V}, (∀ u ∈ es, Typ X.P (n + 1) 3 u) → ∃ a : List Int, es = ints a ∧ ∀ i ∈ a, -9223372036854775808 ≤ i ∧ i ≤ 9223372036854775807
  | [], _ => ⟨[], rfl, fun i h => by simp at h⟩
  | u :: es, h => by
    obtain ⟨i, rfl, hi⟩ := typ3 (h u (by simp))
    obtain ⟨a, rfl, ha⟩ := typ_ints (es := es) (fun u hu => h u (List.mem_cons_of_mem _ hu))
    refine ⟨i :: a, rfl, fun j hj => ?_⟩
    rcases List.mem_cons.1 hj with rfl | hj
    · exact hi
    · exact ha j hj
theorem typ22 {n : Nat} {u : V} (h : Typ X.P (n + 2) 22 u) : ∃ a : List Int, u = .sl (ints a) ∧ a.length ≤ Go.maxLen := by
  rw [Typ] at h
  simp only [X_P, Tryd.underlying22] at h
  obtain ⟨es, rfl, hl, hes⟩ := h
  obtain ⟨a, rfl, _⟩ := typ_ints hes
  exact ⟨a, rfl, by simpa [ints] using hl⟩
end Go.Proofs.YtpocekfifokndaaDoor
namespace Go.Proofs.YtpocekfifokndaaDoor
open Go
set_option maxRecDepth 100000
theorem j2 : (laidOutB Tryd.prog) = true := by kernel_rfl
theorem j3 : (mapsRowed Tryd.prog) = true := by kernel_rfl
theorem j7 : ((Tryd.prog.stops == [])) = true := by kernel_rfl
theorem j9 : ((Tryd.prog.stopKnobs == [])) = true := by kernel_rfl
theorem j23 : ((Rows.placeMulsRow.plainKeys == Tryd.prog.plainKeys)) = true := by kernel_rfl
theorem j25 : (Tryd.prog.stopsHeard) = true := by kernel_rfl
theorem m2 : true = Tryd.pinned.checked.prog.looks [] := by kernel_rfl
end Go.Proofs.YtpocekfifokndaaDoor
