/- The law PlaceRatioBack holds: for every input that can be read the call returns true, and each argument reads afterwards as it read before. No condition. -/
import Derived.Test.YtpocekfifokndaaDoorG8
import Derived.Test.YtpocekfifokndaaDoorG5
import Derived.Test.YtpocekfifokndaaDoorPFactsA
import Derived.Test.YtpocekfifokndaaDoorPFactsB
import Derived.Test.YtpocekfifokndaaDoorPFactsC
import Derived.Test.YtpocekfifokndaaDoorPFactsD
set_option linter.unusedSimpArgs false
set_option linter.unusedVariables false
namespace Go.Proofs.YtpocekfifokndaaDoor.lawPlaceRatioBack
open Go Go.Ev Go.Pl Go.Proofs.YtpocekfifokndaaDoor
open Go.ChangeShapes Go.WideShapes Go.ChangeAt Go.RowKit
set_option maxRecDepth 100000
theorem contract (H : Type) (enc : TypeId × Value → H) (W : World) (base : Nat) (args : Array Value) (ds gs : List (DataW H)) (before : List MemPlace)
    (hval : ∀ (j : Nat) t v, Tryd.f19.params[j]? = some t → args[j]? = some v → Value.okWide Tryd.prog W .any base t v)
    (hW : DataW.Whole enc Tryd.prog Tryd.f19.params.toList Rows.placeRatioBackSpec.vars false W args.toList ds gs before) (hsh : W.ShapedOpen Tryd.prog) (hl : laidMetH Tryd.prog Rows.placeRatioBackRow.laid W) :
    Calls Tryd.prog 19 args W fun e W' => ∃ v, e = .returned v ∧ Rows.placeRatioBackSpec.post enc Tryd.prog Tryd.f19 false true false false W args v W' :=
  law_contractG (X := X) mixed ext_ok ints_ok (n := 8) (by kernel_rfl) (by kernel_rfl) laidOut (tb := 4) rfl Tryd.underlying4 rfl
    (fun H ds h => by
      rw [Tryd.params19] at h
      match ds, h with | [_, _], _ => rfl)
    Go.maxLen (fun us h => by
      rw [Tryd.params19] at h
      obtain ⟨u, v, rfl, hu, hv⟩ := typs2 h
      obtain ⟨x0, x1, rfl⟩ := typ84 hu
      obtain ⟨y0, y1, rfl⟩ := typ84 hv
      exact (P19 x0 x1 y0 y1).runs)
    H enc W base args ds gs before hval hW hsh (zero_glob hl) (cap_all H) (fun _ _ => trivial)
theorem laid_met (os : Os) : laidMet Tryd.prog Rows.placeRatioBackRow.laid ((laidWorld os).forCall (fun _ _ => 0) ⟨#[], #[.agg #[.int .i64 0, .int .i64 0], .agg #[.int .i64 0, .int .i64 0]], []⟩).memory :=
  laidMet_of_run' 8 (by kernel_rfl) (by kernel_rfl)
theorem reads (os : Os) {H : Type} (enc : TypeId × Value → H) : ∃ places, DataW.whole enc Tryd.prog ((laidWorld os).forCall (fun _ _ => 0) ⟨#[], #[.agg #[.int .i64 0, .int .i64 0], .agg #[.int .i64 0, .int .i64 0]], []⟩).memory Tryd.f19.params.toList Rows.placeRatioBackSpec.vars false #[.agg #[.int .i64 0, .int .i64 0], .agg #[.int .i64 0, .int .i64 0]].toList 8 = some ([.agg [.lit (.int .i64 0), .lit (.int .i64 0)], .agg [.lit (.int .i64 0), .lit (.int .i64 0)]], [], places) :=
  ⟨[], by kernel_rfl⟩
theorem lifted (os : Os) (started : os.Started) (H : Type) (enc : TypeId × Value → H) (F : Stop.Interp) :
    ReturnsInHanded {} Tryd.checked os 19 .any ((OpenSpec.ofChange Rows.placeRatioBackSpec).preRow enc Tryd.prog Tryd.f19 Rows.placeRatioBackRow.domain false Rows.placeRatioBackRow.laid) (((OpenSpec.ofChange Rows.placeRatioBackSpec).at F).post enc Tryd.prog Tryd.f19 false true false false) := by
  obtain ⟨places, hx⟩ := reads os enc
  refine returnsInHanded_of_row (C := Tryd.checked) (s := OpenSpec.ofChange Rows.placeRatioBackSpec) own started (by kernel_rfl) Tryd.func19
    (witness_row_at (enc := enc) (C := Tryd.checked) false (laidWorld os) #[.agg #[.int .i64 0, .int .i64 0], .agg #[.int .i64 0, .int .i64 0]] rfl (by kernel_rfl) (by kernel_rfl) (by kernel_rfl)
      (OpenSpec.preRow_of_cond 8 hx (by kernel_rfl) (fun k hk => by cases hk) (by kernel_rfl) (laid_met os))) ?_
  intro W base args ds gs before hval hW _ hcond _ hl hsh _
  exact contract H enc W base args ds gs before hval hW hsh hl
theorem k1 : (Rows.placeRatioBackRow.wf (OpenSpec.ofChange (OpenSpec.ofChange Rows.placeRatioBackSpec).bare)) = true := by kernel_rfl
theorem k4 : (Tryd.f19.params.all (Tryd.prog.readableRec ·)) = true := by kernel_rfl
theorem k5 : (namedTie Tryd.prog Rows.placeRatioBackRow.named (OpenSpec.ofChange Rows.placeRatioBackSpec).bare.vars) = true := by kernel_rfl
theorem k6 : ((Rows.placeRatioBackRow.stops == [])) = true := by kernel_rfl
theorem k8 : ((Rows.placeRatioBackRow.knobs == [])) = true := by kernel_rfl
theorem k10 : ((Rows.placeRatioBackRow.inPlace == Tryd.prog.inPlace 19)) = true := by kernel_rfl
theorem k11 : ((Rows.placeRatioBackRow.unfollowed == Tryd.prog.unfollowed 19)) = true := by kernel_rfl
theorem k12 : ((Rows.placeRatioBackRow.recurses == Tryd.prog.recurses 19)) = true := by kernel_rfl
theorem k13 : ((Rows.placeRatioBackRow.named == Tryd.prog.varsNamed 19)) = true := by kernel_rfl
theorem k14 : ((Rows.placeRatioBackRow.maps == (Tryd.f19.params.toList ++ (OpenSpec.ofChange Rows.placeRatioBackSpec).bare.plain.varTypes Tryd.prog).any (Tryd.prog.mapsRec ·))) = true := by kernel_rfl
theorem k15 : ((Rows.placeRatioBackRow.ifaces == (Tryd.f19.params.toList ++ (OpenSpec.ofChange Rows.placeRatioBackSpec).bare.plain.varTypes Tryd.prog).any (Tryd.prog.ifacesRec ·))) = true := by kernel_rfl
theorem k16 : ((Rows.placeRatioBackRow.mapsOut == Tryd.prog.mapsAmong Tryd.f19.resultTypes.toList)) = true := by kernel_rfl
theorem k17 : ((Rows.placeRatioBackRow.loops == (Tryd.f19.params.toList ++ (OpenSpec.ofChange Rows.placeRatioBackSpec).bare.plain.varTypes Tryd.prog).any (Tryd.prog.loopsFrom ·))) = true := by kernel_rfl
theorem k18 : ((Rows.placeRatioBackRow.wideKeys == (Tryd.f19.params.toList ++ (OpenSpec.ofChange Rows.placeRatioBackSpec).bare.plain.varTypes Tryd.prog ++ Tryd.f19.resultTypes.toList).any (Tryd.prog.wideKeysFrom ·))) = true := by kernel_rfl
theorem k19 : ((OpenSpec.ofChange Rows.placeRatioBackSpec).bare.vars.all (Tryd.prog.varReadable ·)) = true := by kernel_rfl
theorem k20 : (Tryd.f19.resultTypes.all (fun t => Tryd.prog.readableRec t && decide (t < Tryd.prog.types.size))) = true := by kernel_rfl
theorem k21 : ((Rows.placeRatioBackRow.ifacesOut == Tryd.f19.resultTypes.toList.any (Tryd.prog.ifacesRec ·))) = true := by kernel_rfl
theorem k22 : ((Rows.placeRatioBackRow.loopsOut == Tryd.f19.resultTypes.toList.any (Tryd.prog.loopsFrom ·))) = true := by kernel_rfl
theorem k24 : (Rows.placeRatioBackRow.shortTexts.isNone) = true := by kernel_rfl
theorem k29 : ((Rows.placeRatioBackRow.kinds == (if Rows.placeRatioBackRow.domain.isEmpty then [] else Tryd.f19.params.toList.map fun t => match Tryd.prog.underlying t with | some (.int k) => some k | _ => none))) = true := by kernel_rfl
theorem k30 : ((Rows.placeRatioBackRow.pinned == Rows.placeRatioBackRow.pinnedBy)) = true := by kernel_rfl
theorem k31 : ((Rows.placeRatioBackRow.veiled == (Tryd.f19.params.toList ++ (OpenSpec.ofChange Rows.placeRatioBackSpec).bare.plain.varTypes Tryd.prog ++ Tryd.f19.resultTypes.toList).any (Tryd.prog.veiledRec ·))) = true := by kernel_rfl
theorem k32 : (Rows.placeRatioBackRow.veiledFits Tryd.prog Tryd.f19.params.toList (Tryd.f19.params.toList ++ (OpenSpec.ofChange Rows.placeRatioBackSpec).bare.plain.varTypes Tryd.prog ++ Tryd.f19.resultTypes.toList)) = true := by kernel_rfl
theorem closed : joinedFacts Tryd.prog 19 Tryd.f19 (OpenSpec.ofChange Rows.placeRatioBackSpec).bare Rows.placeRatioBackRow = true := by
  unfold joinedFacts
  simp only [Bool.and_eq_true]
  exact ⟨⟨⟨⟨⟨⟨⟨⟨⟨⟨⟨⟨⟨⟨⟨⟨⟨⟨⟨⟨⟨⟨⟨⟨⟨⟨⟨⟨⟨⟨⟨k1, j2⟩, j3⟩, k4⟩, k5⟩, k6⟩, j7⟩, k8⟩, j9⟩, k10⟩, k11⟩, k12⟩, k13⟩, k14⟩, k15⟩, k16⟩, k17⟩, k18⟩, k19⟩, k20⟩, k21⟩, k22⟩, j23⟩, k24⟩, j25⟩, j26⟩, j27⟩, j28⟩, k29⟩, k30⟩, k31⟩, k32⟩
theorem m3 : Rows.placeRatioBackRow.wfByText (OpenSpec.ofChange Rows.placeRatioBackSpec) = true := by kernel_rfl
theorem m4 : false = Rows.placeRatioBackRow.goesBy Tryd.pinned.checked.prog := by kernel_rfl
theorem said : Rows.PlaceRatioBackSaid :=
  OpenClaim.holds_of_cond 19 Tryd.f19 rfl rfl rfl rfl rfl rfl rfl ⟨rfl, rfl, rfl, rfl, rfl⟩ rfl rfl rfl rfl rfl (by kernel_rfl) Tryd.func19 closed
    (of_decide_eq_true (by kernel_rfl)) (by unfold Func.isWrapper; first | (rw [if_pos (by decide +kernel)]; kernel_rfl) | (rw [if_neg (by decide +kernel)]; exact ⟨rfl, rfl⟩))
    (fun os started H enc _ F => by rw [OpenClaim.pre_eq_preRow]; exact lifted os started H enc F)
theorem plain (f : FuncId) (fn : Func) (hf : Tryd.pinned.checked.prog.funcNamed Rows.placeRatioBackRow.func = some f) (hfn : Tryd.pinned.checked.prog.funcs[f]? = some fn) :
    true = Tryd.pinned.checked.prog.looks [] ∧ ∀ (j : Nat) t, fn.params[j]? = some t → Tryd.pinned.checked.prog.wantsStandIn t = false := by
  obtain rfl : f = 19 := Option.some.inj ((show Tryd.prog.funcNamed Rows.placeRatioBackRow.func = some 19 by kernel_rfl).symm.trans hf) |>.symm
  obtain rfl : fn = Tryd.f19 := (Option.some.inj (Tryd.func19.symm.trans hfn)).symm
  refine ⟨m2, fun j t ht => ?_⟩
  rw [Tryd.params19] at ht
  have hm := Array.mem_of_getElem? ht
  have hall : [84, 84].all (fun t => !(Tryd.prog.wantsStandIn t)) = true := by kernel_rfl
  have h2 : Tryd.prog.wantsStandIn t = false := by simpa using List.all_eq_true.1 hall t (by simpa using hm)
  exact h2
theorem card : Rows.PlaceRatioBackCardSaid :=
  Claim7.holds_tied_plain_at .later [] _ _ _ _ said (fun _ h => by cases h) m3 (fun _ h => by cases h) placeRatioBack_row_tie rfl ⟨rfl, rfl⟩ m1 rfl plain m4
end Go.Proofs.YtpocekfifokndaaDoor.lawPlaceRatioBack
