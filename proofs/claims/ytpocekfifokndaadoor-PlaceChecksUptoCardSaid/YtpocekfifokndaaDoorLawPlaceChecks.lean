/- The law PlaceChecks holds: for every input that can be read and is of bulk at most 1048576 the call returns true, and each argument reads afterwards as it read before. No condition but that bulk. -/
import Derived.Test.YtpocekfifokndaaDoorG7
import Derived.Test.YtpocekfifokndaaDoorG5
import Derived.Test.YtpocekfifokndaaDoorPFactsA
import Derived.Test.YtpocekfifokndaaDoorPFactsB
import Derived.Test.YtpocekfifokndaaDoorPFactsC
import Derived.Test.YtpocekfifokndaaDoorPFactsD
set_option linter.unusedSimpArgs false
set_option linter.unusedVariables false
namespace Go.Proofs.YtpocekfifokndaaDoor.lawPlaceChecks
open Go Go.Ev Go.Pl Go.Proofs.YtpocekfifokndaaDoor
open Go.ChangeShapes Go.WideShapes Go.ChangeAt Go.RowKit
set_option maxRecDepth 100000
theorem contract (H : Type) (enc : TypeId × Value → H) (W : World) (base : Nat) (args : Array Value) (ds gs : List (DataW H)) (before : List MemPlace)
    (hval : ∀ (j : Nat) t v, Tryd.f21.params[j]? = some t → args[j]? = some v → Value.okWide Tryd.prog W .any base t v)
    (hW : DataW.Whole enc Tryd.prog Tryd.f21.params.toList Rows.placeChecksSpec.vars false W args.toList ds gs before) (hsh : W.ShapedOpen Tryd.prog) (hk : Rows.uptoSmall H (ds ++ gs) = true) :
    Calls Tryd.prog 21 args W fun e W' => ∃ v, e = .returned v ∧ Rows.placeChecksSpec.post enc Tryd.prog Tryd.f21 false true false false W args v W' :=
  law_contractB (X := X) mixed ext_ok (fun _ => rfl) ints_ok (n := 8) (by kernel_rfl) (by kernel_rfl) laidOut (tb := 4) rfl Tryd.underlying4 rfl
    (fun H ds h => by
      rw [Tryd.params21] at h
      match ds, h with | [_], _ => rfl)
    1048576 (fun us h => by
      rw [Tryd.params21] at h
      obtain ⟨u, rfl, hu⟩ := typs1 h
      obtain ⟨a, rfl, ha⟩ := typ22 hu
      exact (P21 a (by omega)).runs)
    H enc W base args ds gs before hval hW hsh (cap_upto H) (upto_ok hk)
theorem laid_met (os : Os) : laidMet Tryd.prog Rows.placeChecksUptoRow.laid ((laidWorld os).forCall (fun _ _ => 0) ⟨#[], #[.slice none 0 0], []⟩).memory :=
  laidMet_of_run' 8 (by kernel_rfl) (by kernel_rfl)
theorem reads (os : Os) {H : Type} (enc : TypeId × Value → H) : ∃ places, DataW.whole enc Tryd.prog ((laidWorld os).forCall (fun _ _ => 0) ⟨#[], #[.slice none 0 0], []⟩).memory Tryd.f21.params.toList Rows.placeChecksSpec.vars false #[.slice none 0 0].toList 8 = some ([.nil], [], places) :=
  ⟨[], by kernel_rfl⟩
theorem lifted (os : Os) (started : os.Started) (H : Type) (enc : TypeId × Value → H) (F : Stop.Interp) :
    ReturnsInHanded {} Tryd.checked os 21 .any ((Rows.OpenSpec.upto Rows.placeChecksSpec).preRow enc Tryd.prog Tryd.f21 Rows.placeChecksUptoRow.domain false Rows.placeChecksUptoRow.laid) (((Rows.OpenSpec.upto Rows.placeChecksSpec).at F).post enc Tryd.prog Tryd.f21 false true false false) := by
  obtain ⟨places, hx⟩ := reads os enc
  refine returnsInHanded_of_row (C := Tryd.checked) (s := Rows.OpenSpec.upto Rows.placeChecksSpec) own started (by kernel_rfl) Tryd.func21
    (witness_row_at (enc := enc) (C := Tryd.checked) false (laidWorld os) #[.slice none 0 0] rfl (by kernel_rfl) (by kernel_rfl) (by kernel_rfl)
      (OpenSpec.preRow_of_cond 8 hx (by kernel_rfl) (fun k hk => by cases hk; kernel_rfl) (by kernel_rfl) (laid_met os))) ?_
  intro W base args ds gs before hval hW _ hcond _ _ hsh _
  exact contract H enc W base args ds gs before hval hW hsh (hcond _ rfl)
theorem k1 : (Rows.placeChecksUptoRow.wf (OpenSpec.ofChange (Rows.OpenSpec.upto Rows.placeChecksSpec).bare)) = true := by kernel_rfl
theorem k4 : (Tryd.f21.params.all (Tryd.prog.readableRec ·)) = true := by kernel_rfl
theorem k5 : (namedTie Tryd.prog Rows.placeChecksUptoRow.named (Rows.OpenSpec.upto Rows.placeChecksSpec).bare.vars) = true := by kernel_rfl
theorem k6 : ((Rows.placeChecksUptoRow.stops == [])) = true := by kernel_rfl
theorem k8 : ((Rows.placeChecksUptoRow.knobs == [])) = true := by kernel_rfl
theorem k10 : ((Rows.placeChecksUptoRow.inPlace == Tryd.prog.inPlace 21)) = true := by kernel_rfl
theorem k11 : ((Rows.placeChecksUptoRow.unfollowed == Tryd.prog.unfollowed 21)) = true := by kernel_rfl
theorem k12 : ((Rows.placeChecksUptoRow.recurses == Tryd.prog.recurses 21)) = true := by kernel_rfl
theorem k13 : ((Rows.placeChecksUptoRow.named == Tryd.prog.varsNamed 21)) = true := by kernel_rfl
theorem k14 : ((Rows.placeChecksUptoRow.maps == (Tryd.f21.params.toList ++ (Rows.OpenSpec.upto Rows.placeChecksSpec).bare.plain.varTypes Tryd.prog).any (Tryd.prog.mapsRec ·))) = true := by kernel_rfl
theorem k15 : ((Rows.placeChecksUptoRow.ifaces == (Tryd.f21.params.toList ++ (Rows.OpenSpec.upto Rows.placeChecksSpec).bare.plain.varTypes Tryd.prog).any (Tryd.prog.ifacesRec ·))) = true := by kernel_rfl
theorem k16 : ((Rows.placeChecksUptoRow.mapsOut == Tryd.prog.mapsAmong Tryd.f21.resultTypes.toList)) = true := by kernel_rfl
theorem k17 : ((Rows.placeChecksUptoRow.loops == (Tryd.f21.params.toList ++ (Rows.OpenSpec.upto Rows.placeChecksSpec).bare.plain.varTypes Tryd.prog).any (Tryd.prog.loopsFrom ·))) = true := by kernel_rfl
theorem k18 : ((Rows.placeChecksUptoRow.wideKeys == (Tryd.f21.params.toList ++ (Rows.OpenSpec.upto Rows.placeChecksSpec).bare.plain.varTypes Tryd.prog ++ Tryd.f21.resultTypes.toList).any (Tryd.prog.wideKeysFrom ·))) = true := by kernel_rfl
theorem k19 : ((Rows.OpenSpec.upto Rows.placeChecksSpec).bare.vars.all (Tryd.prog.varReadable ·)) = true := by kernel_rfl
theorem k20 : (Tryd.f21.resultTypes.all (fun t => Tryd.prog.readableRec t && decide (t < Tryd.prog.types.size))) = true := by kernel_rfl
theorem k21 : ((Rows.placeChecksUptoRow.ifacesOut == Tryd.f21.resultTypes.toList.any (Tryd.prog.ifacesRec ·))) = true := by kernel_rfl
theorem k22 : ((Rows.placeChecksUptoRow.loopsOut == Tryd.f21.resultTypes.toList.any (Tryd.prog.loopsFrom ·))) = true := by kernel_rfl
theorem k24 : (Rows.placeChecksUptoRow.shortTexts.isNone) = true := by kernel_rfl
theorem k29 : ((Rows.placeChecksUptoRow.kinds == (if Rows.placeChecksUptoRow.domain.isEmpty then [] else Tryd.f21.params.toList.map fun t => match Tryd.prog.underlying t with | some (.int k) => some k | _ => none))) = true := by kernel_rfl
theorem k30 : ((Rows.placeChecksUptoRow.pinned == Rows.placeChecksUptoRow.pinnedBy)) = true := by kernel_rfl
theorem k31 : ((Rows.placeChecksUptoRow.veiled == (Tryd.f21.params.toList ++ (Rows.OpenSpec.upto Rows.placeChecksSpec).bare.plain.varTypes Tryd.prog ++ Tryd.f21.resultTypes.toList).any (Tryd.prog.veiledRec ·))) = true := by kernel_rfl
theorem k32 : (Rows.placeChecksUptoRow.veiledFits Tryd.prog Tryd.f21.params.toList (Tryd.f21.params.toList ++ (Rows.OpenSpec.upto Rows.placeChecksSpec).bare.plain.varTypes Tryd.prog ++ Tryd.f21.resultTypes.toList)) = true := by kernel_rfl
theorem closed : joinedFacts Tryd.prog 21 Tryd.f21 (Rows.OpenSpec.upto Rows.placeChecksSpec).bare Rows.placeChecksUptoRow = true := by
  unfold joinedFacts
  simp only [Bool.and_eq_true]
  exact ⟨⟨⟨⟨⟨⟨⟨⟨⟨⟨⟨⟨⟨⟨⟨⟨⟨⟨⟨⟨⟨⟨⟨⟨⟨⟨⟨⟨⟨⟨⟨k1, j2⟩, j3⟩, k4⟩, k5⟩, k6⟩, j7⟩, k8⟩, j9⟩, k10⟩, k11⟩, k12⟩, k13⟩, k14⟩, k15⟩, k16⟩, k17⟩, k18⟩, k19⟩, k20⟩, k21⟩, k22⟩, j23⟩, k24⟩, j25⟩, j26⟩, j27⟩, j28⟩, k29⟩, k30⟩, k31⟩, k32⟩
theorem m3 : Rows.placeChecksUptoRow.wfByText (Rows.OpenSpec.upto Rows.placeChecksSpec) = true := by kernel_rfl
theorem m4 : false = Rows.placeChecksUptoRow.goesBy Tryd.pinned.checked.prog := by kernel_rfl
theorem said : Rows.PlaceChecksUptoSaid :=
  OpenClaim.holds_of_cond 21 Tryd.f21 rfl rfl rfl rfl rfl rfl rfl ⟨rfl, rfl, rfl, rfl, rfl⟩ rfl rfl rfl rfl rfl (by kernel_rfl) Tryd.func21 closed
    (of_decide_eq_true (by kernel_rfl)) (by unfold Func.isWrapper; first | (rw [if_pos (by decide +kernel)]; kernel_rfl) | (rw [if_neg (by decide +kernel)]; exact ⟨rfl, rfl⟩))
    (fun os started H enc _ F => by rw [OpenClaim.pre_eq_preRow]; exact lifted os started H enc F)
theorem plain (f : FuncId) (fn : Func) (hf : Tryd.pinned.checked.prog.funcNamed Rows.placeChecksUptoRow.func = some f) (hfn : Tryd.pinned.checked.prog.funcs[f]? = some fn) :
    true = Tryd.pinned.checked.prog.looks [] ∧ ∀ (j : Nat) t, fn.params[j]? = some t → Tryd.pinned.checked.prog.wantsStandIn t = false := by
  obtain rfl : f = 21 := Option.some.inj ((show Tryd.prog.funcNamed Rows.placeChecksUptoRow.func = some 21 by kernel_rfl).symm.trans hf) |>.symm
  obtain rfl : fn = Tryd.f21 := (Option.some.inj (Tryd.func21.symm.trans hfn)).symm
  refine ⟨m2, fun j t ht => ?_⟩
  rw [Tryd.params21] at ht
  have hm := Array.mem_of_getElem? ht
  have hall : [22].all (fun t => !(Tryd.prog.wantsStandIn t)) = true := by kernel_rfl
  have h2 : Tryd.prog.wantsStandIn t = false := by simpa using List.all_eq_true.1 hall t (by simpa using hm)
  exact h2
theorem card : Rows.PlaceChecksUptoCardSaid :=
  Claim7.holds_tied_plain_at .later [] _ _ _ _ said (fun _ h => by cases h) m3 (fun _ h => by cases h) placeChecksUpto_row_tie rfl ⟨rfl, rfl⟩ m1 rfl plain m4
end Go.Proofs.YtpocekfifokndaaDoor.lawPlaceChecks
