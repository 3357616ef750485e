/- The law PlaceDigitsBack holds: for every input that can be read and is of bulk at most 1048576 the call returns true, and each argument reads afterwards as it read before. No condition but that bulk. -/
import Derived.Test.YtpocekfifokndaaDoorG6
import Derived.Test.YtpocekfifokndaaDoorG5
import Derived.Test.YtpocekfifokndaaDoorPFactsA
import Derived.Test.YtpocekfifokndaaDoorPFactsB
import Derived.Test.YtpocekfifokndaaDoorPFactsC
import Derived.Test.YtpocekfifokndaaDoorPFactsD
set_option linter.unusedSimpArgs false
set_option linter.unusedVariables false
namespace Go.Proofs.YtpocekfifokndaaDoor.lawPlaceDigitsBack
open Go Go.Ev Go.Pl Go.Proofs.YtpocekfifokndaaDoor
open Go.ChangeShapes Go.WideShapes Go.ChangeAt Go.RowKit
set_option maxRecDepth 100000
theorem contract (H : Type) (enc : TypeId × Value → H) (W : World) (base : Nat) (args : Array Value) (ds gs : List (DataW H)) (before : List MemPlace)
    (hval : ∀ (j : Nat) t v, Tryd.f20.params[j]? = some t → args[j]? = some v → Value.okWide Tryd.prog W .any base t v)
    (hW : DataW.Whole enc Tryd.prog Tryd.f20.params.toList Rows.placeDigitsBackSpec.vars false W args.toList ds gs before) (hsh : W.ShapedOpen Tryd.prog) (hk : Rows.uptoSmall H (ds ++ gs) = true) :
    Calls Tryd.prog 20 args W fun e W' => ∃ v, e = .returned v ∧ Rows.placeDigitsBackSpec.post enc Tryd.prog Tryd.f20 false true false false W args v W' :=
  law_contractB (X := X) mixed ext_ok (fun _ => rfl) ints_ok (n := 8) (by kernel_rfl) (by kernel_rfl) laidOut (tb := 4) rfl Tryd.underlying4 rfl
    (fun H ds h => by
      rw [Tryd.params20] at h
      match ds, h with | [_, _], _ => rfl)
    1048576 (fun us h => by
      rw [Tryd.params20] at h
      obtain ⟨u, v, rfl, hu, hv⟩ := typs2 h
      obtain ⟨a, rfl, ha⟩ := typ22 hu
      obtain ⟨s, rfl, hs⟩ := typ9 hv
      exact (P20 a s (by omega) (by omega)).runs)
    H enc W base args ds gs before hval hW hsh (cap_upto H) (upto_ok hk)
theorem laid_met (os : Os) : laidMet Tryd.prog Rows.placeDigitsBackUptoRow.laid ((laidWorld os).forCall (fun _ _ => 0) ⟨#[], #[.slice none 0 0, .string ⟨#[]⟩], []⟩).memory :=
  laidMet_of_run' 8 (by kernel_rfl) (by kernel_rfl)
theorem reads (os : Os) {H : Type} (enc : TypeId × Value → H) : ∃ places, DataW.whole enc Tryd.prog ((laidWorld os).forCall (fun _ _ => 0) ⟨#[], #[.slice none 0 0, .string ⟨#[]⟩], []⟩).memory Tryd.f20.params.toList Rows.placeDigitsBackSpec.vars false #[.slice none 0 0, .string ⟨#[]⟩].toList 8 = some ([.nil, .lit (.string [])], [], places) :=
  ⟨[], by kernel_rfl⟩
theorem lifted (os : Os) (started : os.Started) (H : Type) (enc : TypeId × Value → H) (F : Stop.Interp) :
    ReturnsInHanded {} Tryd.checked os 20 .any ((Rows.OpenSpec.upto Rows.placeDigitsBackSpec).preRow enc Tryd.prog Tryd.f20 Rows.placeDigitsBackUptoRow.domain false Rows.placeDigitsBackUptoRow.laid) (((Rows.OpenSpec.upto Rows.placeDigitsBackSpec).at F).post enc Tryd.prog Tryd.f20 false true false false) := by
  obtain ⟨places, hx⟩ := reads os enc
  refine returnsInHanded_of_row (C := Tryd.checked) (s := Rows.OpenSpec.upto Rows.placeDigitsBackSpec) own started (by kernel_rfl) Tryd.func20
    (witness_row_at (enc := enc) (C := Tryd.checked) false (laidWorld os) #[.slice none 0 0, .string ⟨#[]⟩] rfl (by kernel_rfl) (by kernel_rfl) (by kernel_rfl)
      (OpenSpec.preRow_of_cond 8 hx (by kernel_rfl) (fun k hk => by cases hk; kernel_rfl) (by kernel_rfl) (laid_met os))) ?_
  intro W base args ds gs before hval hW _ hcond _ _ hsh _
  exact contract H enc W base args ds gs before hval hW hsh (hcond _ rfl)
theorem k1 : (Rows.placeDigitsBackUptoRow.wf (OpenSpec.ofChange (Rows.OpenSpec.upto Rows.placeDigitsBackSpec).bare)) = true := by kernel_rfl
theorem k4 : (Tryd.f20.params.all (Tryd.prog.readableRec ·)) = true := by kernel_rfl
theorem k5 : (namedTie Tryd.prog Rows.placeDigitsBackUptoRow.named (Rows.OpenSpec.upto Rows.placeDigitsBackSpec).bare.vars) = true := by kernel_rfl
theorem k6 : ((Rows.placeDigitsBackUptoRow.stops == [])) = true := by kernel_rfl
theorem k8 : ((Rows.placeDigitsBackUptoRow.knobs == [])) = true := by kernel_rfl
theorem k10 : ((Rows.placeDigitsBackUptoRow.inPlace == Tryd.prog.inPlace 20)) = true := by kernel_rfl
theorem k11 : ((Rows.placeDigitsBackUptoRow.unfollowed == Tryd.prog.unfollowed 20)) = true := by kernel_rfl
theorem k12 : ((Rows.placeDigitsBackUptoRow.recurses == Tryd.prog.recurses 20)) = true := by kernel_rfl
theorem k13 : ((Rows.placeDigitsBackUptoRow.named == Tryd.prog.varsNamed 20)) = true := by kernel_rfl
theorem k14 : ((Rows.placeDigitsBackUptoRow.maps == (Tryd.f20.params.toList ++ (Rows.OpenSpec.upto Rows.placeDigitsBackSpec).bare.plain.varTypes Tryd.prog).any (Tryd.prog.mapsRec ·))) = true := by kernel_rfl
theorem k15 : ((Rows.placeDigitsBackUptoRow.ifaces == (Tryd.f20.params.toList ++ (Rows.OpenSpec.upto Rows.placeDigitsBackSpec).bare.plain.varTypes Tryd.prog).any (Tryd.prog.ifacesRec ·))) = true := by kernel_rfl
theorem k16 : ((Rows.placeDigitsBackUptoRow.mapsOut == Tryd.prog.mapsAmong Tryd.f20.resultTypes.toList)) = true := by kernel_rfl
theorem k17 : ((Rows.placeDigitsBackUptoRow.loops == (Tryd.f20.params.toList ++ (Rows.OpenSpec.upto Rows.placeDigitsBackSpec).bare.plain.varTypes Tryd.prog).any (Tryd.prog.loopsFrom ·))) = true := by kernel_rfl
theorem k18 : ((Rows.placeDigitsBackUptoRow.wideKeys == (Tryd.f20.params.toList ++ (Rows.OpenSpec.upto Rows.placeDigitsBackSpec).bare.plain.varTypes Tryd.prog ++ Tryd.f20.resultTypes.toList).any (Tryd.prog.wideKeysFrom ·))) = true := by kernel_rfl
theorem k19 : ((Rows.OpenSpec.upto Rows.placeDigitsBackSpec).bare.vars.all (Tryd.prog.varReadable ·)) = true := by kernel_rfl
theorem k20 : (Tryd.f20.resultTypes.all (fun t => Tryd.prog.readableRec t && decide (t < Tryd.prog.types.size))) = true := by kernel_rfl
theorem k21 : ((Rows.placeDigitsBackUptoRow.ifacesOut == Tryd.f20.resultTypes.toList.any (Tryd.prog.ifacesRec ·))) = true := by kernel_rfl
theorem k22 : ((Rows.placeDigitsBackUptoRow.loopsOut == Tryd.f20.resultTypes.toList.any (Tryd.prog.loopsFrom ·))) = true := by kernel_rfl
theorem k24 : (Rows.placeDigitsBackUptoRow.shortTexts.isNone) = true := by kernel_rfl
theorem k29 : ((Rows.placeDigitsBackUptoRow.kinds == (if Rows.placeDigitsBackUptoRow.domain.isEmpty then [] else Tryd.f20.params.toList.map fun t => match Tryd.prog.underlying t with | some (.int k) => some k | _ => none))) = true := by kernel_rfl
theorem k30 : ((Rows.placeDigitsBackUptoRow.pinned == Rows.placeDigitsBackUptoRow.pinnedBy)) = true := by kernel_rfl
theorem k31 : ((Rows.placeDigitsBackUptoRow.veiled == (Tryd.f20.params.toList ++ (Rows.OpenSpec.upto Rows.placeDigitsBackSpec).bare.plain.varTypes Tryd.prog ++ Tryd.f20.resultTypes.toList).any (Tryd.prog.veiledRec ·))) = true := by kernel_rfl
theorem k32 : (Rows.placeDigitsBackUptoRow.veiledFits Tryd.prog Tryd.f20.params.toList (Tryd.f20.params.toList ++ (Rows.OpenSpec.upto Rows.placeDigitsBackSpec).bare.plain.varTypes Tryd.prog ++ Tryd.f20.resultTypes.toList)) = true := by kernel_rfl
theorem closed : joinedFacts Tryd.prog 20 Tryd.f20 (Rows.OpenSpec.upto Rows.placeDigitsBackSpec).bare Rows.placeDigitsBackUptoRow = true := by
  unfold joinedFacts
  simp only [Bool.and_eq_true]
  exact ⟨⟨⟨⟨⟨⟨⟨⟨⟨⟨⟨⟨⟨⟨⟨⟨⟨⟨⟨⟨⟨⟨⟨⟨⟨⟨⟨⟨⟨⟨⟨k1, j2⟩, j3⟩, k4⟩, k5⟩, k6⟩, j7⟩, k8⟩, j9⟩, k10⟩, k11⟩, k12⟩, k13⟩, k14⟩, k15⟩, k16⟩, k17⟩, k18⟩, k19⟩, k20⟩, k21⟩, k22⟩, j23⟩, k24⟩, j25⟩, j26⟩, j27⟩, j28⟩, k29⟩, k30⟩, k31⟩, k32⟩
theorem m3 : Rows.placeDigitsBackUptoRow.wfByText (Rows.OpenSpec.upto Rows.placeDigitsBackSpec) = true := by kernel_rfl
theorem m4 : false = Rows.placeDigitsBackUptoRow.goesBy Tryd.pinned.checked.prog := by kernel_rfl
theorem said : Rows.PlaceDigitsBackUptoSaid :=
  OpenClaim.holds_of_cond 20 Tryd.f20 rfl rfl rfl rfl rfl rfl rfl ⟨rfl, rfl, rfl, rfl, rfl⟩ rfl rfl rfl rfl rfl (by kernel_rfl) Tryd.func20 closed
    (of_decide_eq_true (by kernel_rfl)) (by unfold Func.isWrapper; first | (rw [if_pos (by decide +kernel)]; kernel_rfl) | (rw [if_neg (by decide +kernel)]; exact ⟨rfl, rfl⟩))
    (fun os started H enc _ F => by rw [OpenClaim.pre_eq_preRow]; exact lifted os started H enc F)
theorem plain (f : FuncId) (fn : Func) (hf : Tryd.pinned.checked.prog.funcNamed Rows.placeDigitsBackUptoRow.func = some f) (hfn : Tryd.pinned.checked.prog.funcs[f]? = some fn) :
    true = Tryd.pinned.checked.prog.looks [] ∧ ∀ (j : Nat) t, fn.params[j]? = some t → Tryd.pinned.checked.prog.wantsStandIn t = false := by
  obtain rfl : f = 20 := Option.some.inj ((show Tryd.prog.funcNamed Rows.placeDigitsBackUptoRow.func = some 20 by kernel_rfl).symm.trans hf) |>.symm
  obtain rfl : fn = Tryd.f20 := (Option.some.inj (Tryd.func20.symm.trans hfn)).symm
  refine ⟨m2, fun j t ht => ?_⟩
  rw [Tryd.params20] at ht
  have hm := Array.mem_of_getElem? ht
  have hall : [22, 9].all (fun t => !(Tryd.prog.wantsStandIn t)) = true := by kernel_rfl
  have h2 : Tryd.prog.wantsStandIn t = false := by simpa using List.all_eq_true.1 hall t (by simpa using hm)
  exact h2
theorem card : Rows.PlaceDigitsBackUptoCardSaid :=
  Claim7.holds_tied_plain_at .later [] _ _ _ _ said (fun _ h => by cases h) m3 (fun _ h => by cases h) placeDigitsBackUpto_row_tie rfl ⟨rfl, rfl⟩ m1 rfl plain m4
end Go.Proofs.YtpocekfifokndaaDoor.lawPlaceDigitsBack
