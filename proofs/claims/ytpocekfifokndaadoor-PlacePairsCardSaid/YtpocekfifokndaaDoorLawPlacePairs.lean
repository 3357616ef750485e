/- The law PlacePairs holds: for every input that can be read the call returns true, and each argument reads afterwards as it read before. No condition. -/
import Derived.Test.YtpocekfifokndaaDoorG16
import Derived.Test.YtpocekfifokndaaDoorG5
import Derived.Test.YtpocekfifokndaaDoorPFactsA
import Derived.Test.YtpocekfifokndaaDoorPFactsB
import Derived.Test.YtpocekfifokndaaDoorPFactsC
import Derived.Test.YtpocekfifokndaaDoorPFactsD
set_option linter.unusedSimpArgs false
set_option linter.unusedVariables false
namespace Go.Proofs.YtpocekfifokndaaDoor.lawPlacePairs
open Go Go.Ev Go.Pl Go.Proofs.YtpocekfifokndaaDoor
open Go.ChangeShapes Go.WideShapes Go.ChangeAt Go.RowKit
set_option maxRecDepth 100000
theorem contract (H : Type) (enc : TypeId × Value → H) (W : World) (base : Nat) (args : Array Value) (ds gs : List (DataW H)) (before : List MemPlace)
    (hval : ∀ (j : Nat) t v, Tryd.f12.params[j]? = some t → args[j]? = some v → Value.okWide Tryd.prog W .any base t v)
    (hW : DataW.Whole enc Tryd.prog Tryd.f12.params.toList Rows.placePairsSpec.vars false W args.toList ds gs before) (hsh : W.ShapedOpen Tryd.prog) :
    Calls Tryd.prog 12 args W fun e W' => ∃ v, e = .returned v ∧ Rows.placePairsSpec.post enc Tryd.prog Tryd.f12 false true false false W args v W' :=
  law_contract (X := X) mixed ext_ok (fun _ => rfl) ints_ok (n := 8) (by kernel_rfl) (by kernel_rfl) laidOut (tb := 4) rfl Tryd.underlying4 rfl
    (fun H ds h => by
      rw [Tryd.params12] at h
      match ds, h with | [_, _], _ => rfl)
    (fun us h => by
      rw [Tryd.params12] at h
      obtain ⟨u, v, rfl, hu, hv⟩ := typs2 h
      obtain ⟨a, rfl, _⟩ := typ3 hu
      obtain ⟨b, rfl, _⟩ := typ3 hv
      exact (P12 a b).runs)
    H enc W base args ds gs before hval hW hsh
theorem laid_met (os : Os) : laidMet Tryd.prog Rows.placePairsRow.laid ((laidWorld os).forCall (fun _ _ => 0) ⟨#[], #[.int .i64 0, .int .i64 0], []⟩).memory :=
  laidMet_of_run' 8 (by kernel_rfl) (by kernel_rfl)
theorem reads (os : Os) {H : Type} (enc : TypeId × Value → H) : ∃ places, DataW.whole enc Tryd.prog ((laidWorld os).forCall (fun _ _ => 0) ⟨#[], #[.int .i64 0, .int .i64 0], []⟩).memory Tryd.f12.params.toList Rows.placePairsSpec.vars false #[.int .i64 0, .int .i64 0].toList 8 = some ([.lit (.int .i64 0), .lit (.int .i64 0)], [], places) :=
  ⟨[], by kernel_rfl⟩
theorem lifted (os : Os) (started : os.Started) (H : Type) (enc : TypeId × Value → H) (F : Stop.Interp) :
    ReturnsInHanded {} Tryd.checked os 12 .any ((OpenSpec.ofChange Rows.placePairsSpec).preRow enc Tryd.prog Tryd.f12 Rows.placePairsRow.domain false Rows.placePairsRow.laid) (((OpenSpec.ofChange Rows.placePairsSpec).at F).post enc Tryd.prog Tryd.f12 false true false false) := by
  obtain ⟨places, hx⟩ := reads os enc
  refine returnsInHanded_of_row (C := Tryd.checked) (s := OpenSpec.ofChange Rows.placePairsSpec) own started (by kernel_rfl) Tryd.func12
    (witness_row_at (enc := enc) (C := Tryd.checked) false (laidWorld os) #[.int .i64 0, .int .i64 0] rfl (by kernel_rfl) (by kernel_rfl) (by kernel_rfl)
      (OpenSpec.preRow_of_cond 8 hx (by kernel_rfl) (fun k hk => by cases hk) (by kernel_rfl) (laid_met os))) ?_
  intro W base args ds gs before hval hW _ hcond _ _ hsh _
  exact contract H enc W base args ds gs before hval hW hsh
theorem k1 : (Rows.placePairsRow.wf (OpenSpec.ofChange (OpenSpec.ofChange Rows.placePairsSpec).bare)) = true := by kernel_rfl
theorem k4 : (Tryd.f12.params.all (Tryd.prog.readableRec ·)) = true := by kernel_rfl
theorem k5 : (namedTie Tryd.prog Rows.placePairsRow.named (OpenSpec.ofChange Rows.placePairsSpec).bare.vars) = true := by kernel_rfl
theorem k6 : ((Rows.placePairsRow.stops == [])) = true := by kernel_rfl
theorem k8 : ((Rows.placePairsRow.knobs == [])) = true := by kernel_rfl
theorem k10 : ((Rows.placePairsRow.inPlace == Tryd.prog.inPlace 12)) = true := by kernel_rfl
theorem k11 : ((Rows.placePairsRow.unfollowed == Tryd.prog.unfollowed 12)) = true := by kernel_rfl
theorem k12 : ((Rows.placePairsRow.recurses == Tryd.prog.recurses 12)) = true := by kernel_rfl
theorem k13 : ((Rows.placePairsRow.named == Tryd.prog.varsNamed 12)) = true := by kernel_rfl
theorem k14 : ((Rows.placePairsRow.maps == (Tryd.f12.params.toList ++ (OpenSpec.ofChange Rows.placePairsSpec).bare.plain.varTypes Tryd.prog).any (Tryd.prog.mapsRec ·))) = true := by kernel_rfl
theorem k15 : ((Rows.placePairsRow.ifaces == (Tryd.f12.params.toList ++ (OpenSpec.ofChange Rows.placePairsSpec).bare.plain.varTypes Tryd.prog).any (Tryd.prog.ifacesRec ·))) = true := by kernel_rfl
theorem k16 : ((Rows.placePairsRow.mapsOut == Tryd.prog.mapsAmong Tryd.f12.resultTypes.toList)) = true := by kernel_rfl
theorem k17 : ((Rows.placePairsRow.loops == (Tryd.f12.params.toList ++ (OpenSpec.ofChange Rows.placePairsSpec).bare.plain.varTypes Tryd.prog).any (Tryd.prog.loopsFrom ·))) = true := by kernel_rfl
theorem k18 : ((Rows.placePairsRow.wideKeys == (Tryd.f12.params.toList ++ (OpenSpec.ofChange Rows.placePairsSpec).bare.plain.varTypes Tryd.prog ++ Tryd.f12.resultTypes.toList).any (Tryd.prog.wideKeysFrom ·))) = true := by kernel_rfl
theorem k19 : ((OpenSpec.ofChange Rows.placePairsSpec).bare.vars.all (Tryd.prog.varReadable ·)) = true := by kernel_rfl
theorem k20 : (Tryd.f12.resultTypes.all (fun t => Tryd.prog.readableRec t && decide (t < Tryd.prog.types.size))) = true := by kernel_rfl
theorem k21 : ((Rows.placePairsRow.ifacesOut == Tryd.f12.resultTypes.toList.any (Tryd.prog.ifacesRec ·))) = true := by kernel_rfl
theorem k22 : ((Rows.placePairsRow.loopsOut == Tryd.f12.resultTypes.toList.any (Tryd.prog.loopsFrom ·))) = true := by kernel_rfl
theorem k24 : (Rows.placePairsRow.shortTexts.isNone) = true := by kernel_rfl
theorem k29 : ((Rows.placePairsRow.kinds == (if Rows.placePairsRow.domain.isEmpty then [] else Tryd.f12.params.toList.map fun t => match Tryd.prog.underlying t with | some (.int k) => some k | _ => none))) = true := by kernel_rfl
theorem k30 : ((Rows.placePairsRow.pinned == Rows.placePairsRow.pinnedBy)) = true := by kernel_rfl
theorem k31 : ((Rows.placePairsRow.veiled == (Tryd.f12.params.toList ++ (OpenSpec.ofChange Rows.placePairsSpec).bare.plain.varTypes Tryd.prog ++ Tryd.f12.resultTypes.toList).any (Tryd.prog.veiledRec ·))) = true := by kernel_rfl
theorem k32 : (Rows.placePairsRow.veiledFits Tryd.prog Tryd.f12.params.toList (Tryd.f12.params.toList ++ (OpenSpec.ofChange Rows.placePairsSpec).bare.plain.varTypes Tryd.prog ++ Tryd.f12.resultTypes.toList)) = true := by kernel_rfl
theorem closed : joinedFacts Tryd.prog 12 Tryd.f12 (OpenSpec.ofChange Rows.placePairsSpec).bare Rows.placePairsRow = true := by
  unfold joinedFacts
  simp only [Bool.and_eq_true]
  exact ⟨⟨⟨⟨⟨⟨⟨⟨⟨⟨⟨⟨⟨⟨⟨⟨⟨⟨⟨⟨⟨⟨⟨⟨⟨⟨⟨⟨⟨⟨⟨k1, j2⟩, j3⟩, k4⟩, k5⟩, k6⟩, j7⟩, k8⟩, j9⟩, k10⟩, k11⟩, k12⟩, k13⟩, k14⟩, k15⟩, k16⟩, k17⟩, k18⟩, k19⟩, k20⟩, k21⟩, k22⟩, j23⟩, k24⟩, j25⟩, j26⟩, j27⟩, j28⟩, k29⟩, k30⟩, k31⟩, k32⟩
theorem m3 : Rows.placePairsRow.wfByText (OpenSpec.ofChange Rows.placePairsSpec) = true := by kernel_rfl
theorem m4 : false = Rows.placePairsRow.goesBy Tryd.pinned.checked.prog := by kernel_rfl
theorem said : Rows.PlacePairsSaid :=
  OpenClaim.holds_of_cond 12 Tryd.f12 rfl rfl rfl rfl rfl rfl rfl ⟨rfl, rfl, rfl, rfl, rfl⟩ rfl rfl rfl rfl rfl (by kernel_rfl) Tryd.func12 closed
    (of_decide_eq_true (by kernel_rfl)) (by unfold Func.isWrapper; first | (rw [if_pos (by decide +kernel)]; kernel_rfl) | (rw [if_neg (by decide +kernel)]; exact ⟨rfl, rfl⟩))
    (fun os started H enc _ F => by rw [OpenClaim.pre_eq_preRow]; exact lifted os started H enc F)
theorem plain (f : FuncId) (fn : Func) (hf : Tryd.pinned.checked.prog.funcNamed Rows.placePairsRow.func = some f) (hfn : Tryd.pinned.checked.prog.funcs[f]? = some fn) :
    true = Tryd.pinned.checked.prog.looks [] ∧ ∀ (j : Nat) t, fn.params[j]? = some t → Tryd.pinned.checked.prog.wantsStandIn t = false := by
  obtain rfl : f = 12 := Option.some.inj ((show Tryd.prog.funcNamed Rows.placePairsRow.func = some 12 by kernel_rfl).symm.trans hf) |>.symm
  obtain rfl : fn = Tryd.f12 := (Option.some.inj (Tryd.func12.symm.trans hfn)).symm
  refine ⟨m2, fun j t ht => ?_⟩
  rw [Tryd.params12] at ht
  have hm := Array.mem_of_getElem? ht
  have hall : [3, 3].all (fun t => !(Tryd.prog.wantsStandIn t)) = true := by kernel_rfl
  have h2 : Tryd.prog.wantsStandIn t = false := by simpa using List.all_eq_true.1 hall t (by simpa using hm)
  exact h2
theorem card : Rows.PlacePairsCardSaid :=
  Claim7.holds_tied_plain_at .later [] _ _ _ _ said (fun _ h => by cases h) m3 (fun _ h => by cases h) placePairs_row_tie rfl ⟨rfl, rfl⟩ m1 rfl plain m4
end Go.Proofs.YtpocekfifokndaaDoor.lawPlacePairs
