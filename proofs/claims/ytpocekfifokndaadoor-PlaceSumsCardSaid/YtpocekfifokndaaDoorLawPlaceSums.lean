/- The law PlaceSums holds: for every input that can be read the call returns true, and each argument reads afterwards as it read before. No condition. -/
import Derived.Test.YtpocekfifokndaaDoorG11
import Derived.Test.YtpocekfifokndaaDoorG5
import Derived.Test.YtpocekfifokndaaDoorPFactsA
import Derived.Test.YtpocekfifokndaaDoorPFactsB
import Derived.Test.YtpocekfifokndaaDoorPFactsC
import Derived.Test.YtpocekfifokndaaDoorPFactsD
set_option linter.unusedSimpArgs false
set_option linter.unusedVariables false
namespace Go.Proofs.YtpocekfifokndaaDoor.lawPlaceSums
open Go Go.Ev Go.Pl Go.Proofs.YtpocekfifokndaaDoor
open Go.ChangeShapes Go.WideShapes Go.ChangeAt Go.RowKit
set_option maxRecDepth 100000
theorem contract (H : Type) (enc : TypeId × Value → H) (W : World) (base : Nat) (args : Array Value) (ds gs : List (DataW H)) (before : List MemPlace)
    (hval : ∀ (j : Nat) t v, Tryd.f14.params[j]? = some t → args[j]? = some v → Value.okWide Tryd.prog W .any base t v)
    (hW : DataW.Whole enc Tryd.prog Tryd.f14.params.toList Rows.placeSumsSpec.vars false W args.toList ds gs before) (hsh : W.ShapedOpen Tryd.prog) :
    Calls Tryd.prog 14 args W fun e W' => ∃ v, e = .returned v ∧ Rows.placeSumsSpec.post enc Tryd.prog Tryd.f14 false true false false W args v W' :=
  law_contract (X := X) mixed ext_ok (fun _ => rfl) ints_ok (n := 8) (by kernel_rfl) (by kernel_rfl) laidOut (tb := 4) rfl Tryd.underlying4 rfl
    (fun H ds h => by
      rw [Tryd.params14] at h
      match ds, h with | [_], _ => rfl)
    (fun us h => by
      rw [Tryd.params14] at h
      obtain ⟨u, rfl, hu⟩ := typs1 h
      obtain ⟨l, rfl⟩ := typ64 hu
      exact (P14 l).runs)
    H enc W base args ds gs before hval hW hsh
theorem laid_met (os : Os) : laidMet Tryd.prog Rows.placeSumsRow.laid ((laidWorld os).forCall (fun _ _ => 0) ⟨#[], #[.slice none 0 0], []⟩).memory :=
  laidMet_of_run' 8 (by kernel_rfl) (by kernel_rfl)
theorem reads (os : Os) {H : Type} (enc : TypeId × Value → H) : ∃ places, DataW.whole enc Tryd.prog ((laidWorld os).forCall (fun _ _ => 0) ⟨#[], #[.slice none 0 0], []⟩).memory Tryd.f14.params.toList Rows.placeSumsSpec.vars false #[.slice none 0 0].toList 8 = some ([.nil], [], places) :=
  ⟨[], by kernel_rfl⟩
theorem lifted (os : Os) (started : os.Started) (H : Type) (enc : TypeId × Value → H) (F : Stop.Interp) :
    ReturnsInHanded {} Tryd.checked os 14 .any ((OpenSpec.ofChange Rows.placeSumsSpec).preRow enc Tryd.prog Tryd.f14 Rows.placeSumsRow.domain false Rows.placeSumsRow.laid) (((OpenSpec.ofChange Rows.placeSumsSpec).at F).post enc Tryd.prog Tryd.f14 false true false false) := by
  obtain ⟨places, hx⟩ := reads os enc
  refine returnsInHanded_of_row (C := Tryd.checked) (s := OpenSpec.ofChange Rows.placeSumsSpec) own started (by kernel_rfl) Tryd.func14
    (witness_row_at (enc := enc) (C := Tryd.checked) false (laidWorld os) #[.slice none 0 0] rfl (by kernel_rfl) (by kernel_rfl) (by kernel_rfl)
      (OpenSpec.preRow_of_cond 8 hx (by kernel_rfl) (fun k hk => by cases hk) (by kernel_rfl) (laid_met os))) ?_
  intro W base args ds gs before hval hW _ hcond _ _ hsh _
  exact contract H enc W base args ds gs before hval hW hsh
theorem k1 : (Rows.placeSumsRow.wf (OpenSpec.ofChange (OpenSpec.ofChange Rows.placeSumsSpec).bare)) = true := by kernel_rfl
theorem k4 : (Tryd.f14.params.all (Tryd.prog.readableRec ·)) = true := by kernel_rfl
theorem k5 : (namedTie Tryd.prog Rows.placeSumsRow.named (OpenSpec.ofChange Rows.placeSumsSpec).bare.vars) = true := by kernel_rfl
theorem k6 : ((Rows.placeSumsRow.stops == [])) = true := by kernel_rfl
theorem k8 : ((Rows.placeSumsRow.knobs == [])) = true := by kernel_rfl
theorem k10 : ((Rows.placeSumsRow.inPlace == Tryd.prog.inPlace 14)) = true := by kernel_rfl
theorem k11 : ((Rows.placeSumsRow.unfollowed == Tryd.prog.unfollowed 14)) = true := by kernel_rfl
theorem k12 : ((Rows.placeSumsRow.recurses == Tryd.prog.recurses 14)) = true := by kernel_rfl
theorem k13 : ((Rows.placeSumsRow.named == Tryd.prog.varsNamed 14)) = true := by kernel_rfl
theorem k14 : ((Rows.placeSumsRow.maps == (Tryd.f14.params.toList ++ (OpenSpec.ofChange Rows.placeSumsSpec).bare.plain.varTypes Tryd.prog).any (Tryd.prog.mapsRec ·))) = true := by kernel_rfl
theorem k15 : ((Rows.placeSumsRow.ifaces == (Tryd.f14.params.toList ++ (OpenSpec.ofChange Rows.placeSumsSpec).bare.plain.varTypes Tryd.prog).any (Tryd.prog.ifacesRec ·))) = true := by kernel_rfl
theorem k16 : ((Rows.placeSumsRow.mapsOut == Tryd.prog.mapsAmong Tryd.f14.resultTypes.toList)) = true := by kernel_rfl
theorem k17 : ((Rows.placeSumsRow.loops == (Tryd.f14.params.toList ++ (OpenSpec.ofChange Rows.placeSumsSpec).bare.plain.varTypes Tryd.prog).any (Tryd.prog.loopsFrom ·))) = true := by kernel_rfl
theorem k18 : ((Rows.placeSumsRow.wideKeys == (Tryd.f14.params.toList ++ (OpenSpec.ofChange Rows.placeSumsSpec).bare.plain.varTypes Tryd.prog ++ Tryd.f14.resultTypes.toList).any (Tryd.prog.wideKeysFrom ·))) = true := by kernel_rfl
theorem k19 : ((OpenSpec.ofChange Rows.placeSumsSpec).bare.vars.all (Tryd.prog.varReadable ·)) = true := by kernel_rfl
theorem k20 : (Tryd.f14.resultTypes.all (fun t => Tryd.prog.readableRec t && decide (t < Tryd.prog.types.size))) = true := by kernel_rfl
theorem k21 : ((Rows.placeSumsRow.ifacesOut == Tryd.f14.resultTypes.toList.any (Tryd.prog.ifacesRec ·))) = true := by kernel_rfl
theorem k22 : ((Rows.placeSumsRow.loopsOut == Tryd.f14.resultTypes.toList.any (Tryd.prog.loopsFrom ·))) = true := by kernel_rfl
theorem k24 : (Rows.placeSumsRow.shortTexts.isNone) = true := by kernel_rfl
theorem k29 : ((Rows.placeSumsRow.kinds == (if Rows.placeSumsRow.domain.isEmpty then [] else Tryd.f14.params.toList.map fun t => match Tryd.prog.underlying t with | some (.int k) => some k | _ => none))) = true := by kernel_rfl
theorem k30 : ((Rows.placeSumsRow.pinned == Rows.placeSumsRow.pinnedBy)) = true := by kernel_rfl
theorem k31 : ((Rows.placeSumsRow.veiled == (Tryd.f14.params.toList ++ (OpenSpec.ofChange Rows.placeSumsSpec).bare.plain.varTypes Tryd.prog ++ Tryd.f14.resultTypes.toList).any (Tryd.prog.veiledRec ·))) = true := by kernel_rfl
theorem k32 : (Rows.placeSumsRow.veiledFits Tryd.prog Tryd.f14.params.toList (Tryd.f14.params.toList ++ (OpenSpec.ofChange Rows.placeSumsSpec).bare.plain.varTypes Tryd.prog ++ Tryd.f14.resultTypes.toList)) = true := by kernel_rfl
theorem closed : joinedFacts Tryd.prog 14 Tryd.f14 (OpenSpec.ofChange Rows.placeSumsSpec).bare Rows.placeSumsRow = true := by
  unfold joinedFacts
  simp only [Bool.and_eq_true]
  exact ⟨⟨⟨⟨⟨⟨⟨⟨⟨⟨⟨⟨⟨⟨⟨⟨⟨⟨⟨⟨⟨⟨⟨⟨⟨⟨⟨⟨⟨⟨⟨k1, j2⟩, j3⟩, k4⟩, k5⟩, k6⟩, j7⟩, k8⟩, j9⟩, k10⟩, k11⟩, k12⟩, k13⟩, k14⟩, k15⟩, k16⟩, k17⟩, k18⟩, k19⟩, k20⟩, k21⟩, k22⟩, j23⟩, k24⟩, j25⟩, j26⟩, j27⟩, j28⟩, k29⟩, k30⟩, k31⟩, k32⟩
theorem m3 : Rows.placeSumsRow.wfByText (OpenSpec.ofChange Rows.placeSumsSpec) = true := by kernel_rfl
theorem m4 : false = Rows.placeSumsRow.goesBy Tryd.pinned.checked.prog := by kernel_rfl
theorem said : Rows.PlaceSumsSaid :=
  OpenClaim.holds_of_cond 14 Tryd.f14 rfl rfl rfl rfl rfl rfl rfl ⟨rfl, rfl, rfl, rfl, rfl⟩ rfl rfl rfl rfl rfl (by kernel_rfl) Tryd.func14 closed
    (of_decide_eq_true (by kernel_rfl)) (by unfold Func.isWrapper; first | (rw [if_pos (by decide +kernel)]; kernel_rfl) | (rw [if_neg (by decide +kernel)]; exact ⟨rfl, rfl⟩))
    (fun os started H enc _ F => by rw [OpenClaim.pre_eq_preRow]; exact lifted os started H enc F)
theorem plain (f : FuncId) (fn : Func) (hf : Tryd.pinned.checked.prog.funcNamed Rows.placeSumsRow.func = some f) (hfn : Tryd.pinned.checked.prog.funcs[f]? = some fn) :
    true = Tryd.pinned.checked.prog.looks [] ∧ ∀ (j : Nat) t, fn.params[j]? = some t → Tryd.pinned.checked.prog.wantsStandIn t = false := by
  obtain rfl : f = 14 := Option.some.inj ((show Tryd.prog.funcNamed Rows.placeSumsRow.func = some 14 by kernel_rfl).symm.trans hf) |>.symm
  obtain rfl : fn = Tryd.f14 := (Option.some.inj (Tryd.func14.symm.trans hfn)).symm
  refine ⟨m2, fun j t ht => ?_⟩
  rw [Tryd.params14] at ht
  have hm := Array.mem_of_getElem? ht
  have hall : [64].all (fun t => !(Tryd.prog.wantsStandIn t)) = true := by kernel_rfl
  have h2 : Tryd.prog.wantsStandIn t = false := by simpa using List.all_eq_true.1 hall t (by simpa using hm)
  exact h2
theorem card : Rows.PlaceSumsCardSaid :=
  Claim7.holds_tied_plain_at .later [] _ _ _ _ said (fun _ h => by cases h) m3 (fun _ h => by cases h) placeSums_row_tie rfl ⟨rfl, rfl⟩ m1 rfl plain m4
end Go.Proofs.YtpocekfifokndaaDoor.lawPlaceSums
