/- The law PlaceKnown holds: for every input that can be read the call returns true, and each argument reads afterwards as it read before. No condition. -/
import Derived.Test.YtpocekfifokndaaDoorG7
import Derived.Test.YtpocekfifokndaaDoorG5
import Derived.Test.YtpocekfifokndaaDoorPFactsA
import Derived.Test.YtpocekfifokndaaDoorPFactsB
import Derived.Test.YtpocekfifokndaaDoorPFactsC
import Derived.Test.YtpocekfifokndaaDoorPFactsD
set_option linter.unusedSimpArgs false
set_option linter.unusedVariables false
namespace Go.Proofs.YtpocekfifokndaaDoor.lawPlaceKnown
open Go Go.Ev Go.Pl Go.Proofs.YtpocekfifokndaaDoor
open Go.ChangeShapes Go.WideShapes Go.ChangeAt Go.RowKit
set_option maxRecDepth 100000
theorem contract (H : Type) (enc : TypeId × Value → H) (W : World) (base : Nat) (args : Array Value) (ds gs : List (DataW H)) (before : List MemPlace)
    (hval : ∀ (j : Nat) t v, Tryd.f22.params[j]? = some t → args[j]? = some v → Value.okWide Tryd.prog W .any base t v)
    (hW : DataW.Whole enc Tryd.prog Tryd.f22.params.toList Rows.placeKnownSpec.vars false W args.toList ds gs before) (hsh : W.ShapedOpen Tryd.prog) :
    Calls Tryd.prog 22 args W fun e W' => ∃ v, e = .returned v ∧ Rows.placeKnownSpec.post enc Tryd.prog Tryd.f22 false true false false W args v W' :=
  law_contract (X := X) mixed ext_ok (fun _ => rfl) ints_ok (n := 8) (by kernel_rfl) (by kernel_rfl) laidOut (tb := 4) rfl Tryd.underlying4 rfl
    (fun H ds h => by
      rw [Tryd.params22] at h
      match ds, h with | [], _ => rfl)
    (fun us h => by
      rw [Tryd.params22] at h
      match us, h with
      | [], _ => exact P22.runs)
    H enc W base args ds gs before hval hW hsh
theorem laid_met (os : Os) : laidMet Tryd.prog Rows.placeKnownRow.laid ((laidWorld os).forCall (fun _ _ => 0) ⟨#[], #[], []⟩).memory :=
  laidMet_of_run' 8 (by kernel_rfl) (by kernel_rfl)
theorem reads (os : Os) {H : Type} (enc : TypeId × Value → H) : ∃ places, DataW.whole enc Tryd.prog ((laidWorld os).forCall (fun _ _ => 0) ⟨#[], #[], []⟩).memory Tryd.f22.params.toList Rows.placeKnownSpec.vars false #[].toList 8 = some ([], [], places) :=
  ⟨[], by kernel_rfl⟩
theorem lifted (os : Os) (started : os.Started) (H : Type) (enc : TypeId × Value → H) (F : Stop.Interp) :
    ReturnsInHanded {} Tryd.checked os 22 .any ((OpenSpec.ofChange Rows.placeKnownSpec).preRow enc Tryd.prog Tryd.f22 Rows.placeKnownRow.domain false Rows.placeKnownRow.laid) (((OpenSpec.ofChange Rows.placeKnownSpec).at F).post enc Tryd.prog Tryd.f22 false true false false) := by
  obtain ⟨places, hx⟩ := reads os enc
  refine returnsInHanded_of_row (C := Tryd.checked) (s := OpenSpec.ofChange Rows.placeKnownSpec) own started (by kernel_rfl) Tryd.func22
    (witness_row_at (enc := enc) (C := Tryd.checked) false (laidWorld os) #[] rfl (by kernel_rfl) (by kernel_rfl) (by kernel_rfl)
      (OpenSpec.preRow_of_cond 8 hx (by kernel_rfl) (fun k hk => by cases hk) (by kernel_rfl) (laid_met os))) ?_
  intro W base args ds gs before hval hW _ hcond _ _ hsh _
  exact contract H enc W base args ds gs before hval hW hsh
theorem k1 : (Rows.placeKnownRow.wf (OpenSpec.ofChange (OpenSpec.ofChange Rows.placeKnownSpec).bare)) = true := by kernel_rfl
theorem k4 : (Tryd.f22.params.all (Tryd.prog.readableRec ·)) = true := by kernel_rfl
theorem k5 : (namedTie Tryd.prog Rows.placeKnownRow.named (OpenSpec.ofChange Rows.placeKnownSpec).bare.vars) = true := by kernel_rfl
theorem k6 : ((Rows.placeKnownRow.stops == [])) = true := by kernel_rfl
theorem k8 : ((Rows.placeKnownRow.knobs == [])) = true := by kernel_rfl
theorem k10 : ((Rows.placeKnownRow.inPlace == Tryd.prog.inPlace 22)) = true := by kernel_rfl
theorem k11 : ((Rows.placeKnownRow.unfollowed == Tryd.prog.unfollowed 22)) = true := by kernel_rfl
theorem k12 : ((Rows.placeKnownRow.recurses == Tryd.prog.recurses 22)) = true := by kernel_rfl
theorem k13 : ((Rows.placeKnownRow.named == Tryd.prog.varsNamed 22)) = true := by kernel_rfl
theorem k14 : ((Rows.placeKnownRow.maps == (Tryd.f22.params.toList ++ (OpenSpec.ofChange Rows.placeKnownSpec).bare.plain.varTypes Tryd.prog).any (Tryd.prog.mapsRec ·))) = true := by kernel_rfl
theorem k15 : ((Rows.placeKnownRow.ifaces == (Tryd.f22.params.toList ++ (OpenSpec.ofChange Rows.placeKnownSpec).bare.plain.varTypes Tryd.prog).any (Tryd.prog.ifacesRec ·))) = true := by kernel_rfl
theorem k16 : ((Rows.placeKnownRow.mapsOut == Tryd.prog.mapsAmong Tryd.f22.resultTypes.toList)) = true := by kernel_rfl
theorem k17 : ((Rows.placeKnownRow.loops == (Tryd.f22.params.toList ++ (OpenSpec.ofChange Rows.placeKnownSpec).bare.plain.varTypes Tryd.prog).any (Tryd.prog.loopsFrom ·))) = true := by kernel_rfl
theorem k18 : ((Rows.placeKnownRow.wideKeys == (Tryd.f22.params.toList ++ (OpenSpec.ofChange Rows.placeKnownSpec).bare.plain.varTypes Tryd.prog ++ Tryd.f22.resultTypes.toList).any (Tryd.prog.wideKeysFrom ·))) = true := by kernel_rfl
theorem k19 : ((OpenSpec.ofChange Rows.placeKnownSpec).bare.vars.all (Tryd.prog.varReadable ·)) = true := by kernel_rfl
theorem k20 : (Tryd.f22.resultTypes.all (fun t => Tryd.prog.readableRec t && decide (t < Tryd.prog.types.size))) = true := by kernel_rfl
theorem k21 : ((Rows.placeKnownRow.ifacesOut == Tryd.f22.resultTypes.toList.any (Tryd.prog.ifacesRec ·))) = true := by kernel_rfl
theorem k22 : ((Rows.placeKnownRow.loopsOut == Tryd.f22.resultTypes.toList.any (Tryd.prog.loopsFrom ·))) = true := by kernel_rfl
theorem k24 : (Rows.placeKnownRow.shortTexts.isNone) = true := by kernel_rfl
theorem k29 : ((Rows.placeKnownRow.kinds == (if Rows.placeKnownRow.domain.isEmpty then [] else Tryd.f22.params.toList.map fun t => match Tryd.prog.underlying t with | some (.int k) => some k | _ => none))) = true := by kernel_rfl
theorem k30 : ((Rows.placeKnownRow.pinned == Rows.placeKnownRow.pinnedBy)) = true := by kernel_rfl
theorem k31 : ((Rows.placeKnownRow.veiled == (Tryd.f22.params.toList ++ (OpenSpec.ofChange Rows.placeKnownSpec).bare.plain.varTypes Tryd.prog ++ Tryd.f22.resultTypes.toList).any (Tryd.prog.veiledRec ·))) = true := by kernel_rfl
theorem k32 : (Rows.placeKnownRow.veiledFits Tryd.prog Tryd.f22.params.toList (Tryd.f22.params.toList ++ (OpenSpec.ofChange Rows.placeKnownSpec).bare.plain.varTypes Tryd.prog ++ Tryd.f22.resultTypes.toList)) = true := by kernel_rfl
theorem closed : joinedFacts Tryd.prog 22 Tryd.f22 (OpenSpec.ofChange Rows.placeKnownSpec).bare Rows.placeKnownRow = true := by
  unfold joinedFacts
  simp only [Bool.and_eq_true]
  exact ⟨⟨⟨⟨⟨⟨⟨⟨⟨⟨⟨⟨⟨⟨⟨⟨⟨⟨⟨⟨⟨⟨⟨⟨⟨⟨⟨⟨⟨⟨⟨k1, j2⟩, j3⟩, k4⟩, k5⟩, k6⟩, j7⟩, k8⟩, j9⟩, k10⟩, k11⟩, k12⟩, k13⟩, k14⟩, k15⟩, k16⟩, k17⟩, k18⟩, k19⟩, k20⟩, k21⟩, k22⟩, j23⟩, k24⟩, j25⟩, j26⟩, j27⟩, j28⟩, k29⟩, k30⟩, k31⟩, k32⟩
theorem m3 : Rows.placeKnownRow.wfByText (OpenSpec.ofChange Rows.placeKnownSpec) = true := by kernel_rfl
theorem m4 : false = Rows.placeKnownRow.goesBy Tryd.pinned.checked.prog := by kernel_rfl
theorem said : Rows.PlaceKnownSaid :=
  OpenClaim.holds_of_cond 22 Tryd.f22 rfl rfl rfl rfl rfl rfl rfl ⟨rfl, rfl, rfl, rfl, rfl⟩ rfl rfl rfl rfl rfl (by kernel_rfl) Tryd.func22 closed
    (of_decide_eq_true (by kernel_rfl)) (by unfold Func.isWrapper; first | (rw [if_pos (by decide +kernel)]; kernel_rfl) | (rw [if_neg (by decide +kernel)]; exact ⟨rfl, rfl⟩))
    (fun os started H enc _ F => by rw [OpenClaim.pre_eq_preRow]; exact lifted os started H enc F)
theorem plain (f : FuncId) (fn : Func) (hf : Tryd.pinned.checked.prog.funcNamed Rows.placeKnownRow.func = some f) (hfn : Tryd.pinned.checked.prog.funcs[f]? = some fn) :
    true = Tryd.pinned.checked.prog.looks [] ∧ ∀ (j : Nat) t, fn.params[j]? = some t → Tryd.pinned.checked.prog.wantsStandIn t = false := by
  obtain rfl : f = 22 := Option.some.inj ((show Tryd.prog.funcNamed Rows.placeKnownRow.func = some 22 by kernel_rfl).symm.trans hf) |>.symm
  obtain rfl : fn = Tryd.f22 := (Option.some.inj (Tryd.func22.symm.trans hfn)).symm
  refine ⟨m2, fun j t ht => ?_⟩
  rw [Tryd.params22] at ht
  simp at ht
theorem card : Rows.PlaceKnownCardSaid :=
  Claim7.holds_tied_plain_at .later [] _ _ _ _ said (fun _ h => by cases h) m3 (fun _ h => by cases h) placeKnown_row_tie rfl ⟨rfl, rfl⟩ m1 rfl plain m4
end Go.Proofs.YtpocekfifokndaaDoor.lawPlaceKnown
