/- Part 3 of the proof: an evaluator of the program, proved sound against the model, and what the functions of the program compute. No condition but those each theorem states. -/
import Derived.Test.YtpocekfifokndaaDoorG1
import Derived.Test.YtpocekfifokndaaDoorG2
set_option linter.unusedSimpArgs false
set_option linter.unusedVariables false
namespace Go.Proofs.YtpocekfifokndaaDoor
open Go Go.Ev Go.Pl
set_option maxRecDepth 100000
set_option maxHeartbeats 4000000
theorem splitF_cons (p : Nat) (ps : List Nat) (N : Nat) : splitF (p :: ps) N = (mult p N :: (splitF ps (rem p N)).1, (splitF ps (rem p N)).2) := rfl
theorem over_whole (C p : Nat) : C * 60 ^ 72 / 60 ^ 72 / p * 60 ^ 72 + C * 60 ^ 72 % 60 ^ 72 = C / p * 60 ^ 72 := by
  rw [Nat.mul_div_cancel _ (pow_pos 72), Nat.mul_mod_left, Nat.add_zero]
theorem over_rest (C p : Nat) : C * 60 ^ 72 / 60 ^ 72 % p = C % p := by rw [Nat.mul_div_cancel _ (pow_pos 72)]
theorem Q101 (C p : Nat) (hC : C < 60 ^ 90) (hp0 : 0 < p) (hp : p < 1000) : Ans X 101 [wv (C * 60 ^ 72), vn p] (.ret (.tup [wv (C / p * 60 ^ 72), vn (C % p)])) := by
  have h := P101 (C * 60 ^ 72) p (by
    calc C * 60 ^ 72 < 60 ^ 90 * 60 ^ 72 := Nat.mul_lt_mul_of_pos_right hC (by decide)
      _ ≤ 60 ^ 168 := by decide) hp0 (by omega)
  rw [over_whole, over_rest] at h
  exact h
theorem mult_bound {p c C : Nat} (n : Nat) (hp : 1 < p) (h : p ^ c ≤ C) (hC : C < 60 ^ n) : c < 6 * n := by
  have h1 : 2 ^ c ≤ p ^ c := Nat.pow_le_pow_left (by omega) _
  have h2 : 60 ^ n ≤ (2 ^ 6) ^ n := Nat.pow_le_pow_left (by decide) _
  rw [← Nat.pow_mul] at h2
  exact (Nat.pow_lt_pow_iff_right (a := 2) (by decide)).1 (Nat.lt_of_le_of_lt h1 (Nat.lt_of_le_of_lt h (Nat.lt_of_lt_of_le hC h2)))
theorem P87 (ps : List Nat) (N : Nat) (hps : ∀ p ∈ ps, 1 < p ∧ p < 100) (hl : ps.length ≤ 10) (hN : 0 < N) (hb : N < 60 ^ 90) :
    Ans X 87 [wv (N * 60 ^ 72), .sl (nats ps)] (.ret (.tup [.sl (nats (splitF ps N).1), wv ((splitF ps N).2 * 60 ^ 72)])) := by
  refine call_of_X (fn := Tryd.f87) 2 Tryd.func87 rfl (by decide +kernel) rfl ?_ ?_ ?_ ?_
  · simp only [List.any_cons, List.any_nil, wv_refs]; rfl
  · intro h; exact absurd h (by rw [sr87]; decide)
  · intro v hv; injection hv with hv; subst hv; simp [V.still, wc_transit]
  intro s hs hd ho
  have hm : s.m = ⟨.nil, []⟩ := by subst hs; rfl
  have h0 : s.t.get 0 = wv (N * 60 ^ 72) := by subst hs; rfl
  have h1 : s.t.get 1 = .sl (nats ps) := by subst hs; rfl
  clear hs
  repeat (first
    | with_reducible first | refine W_seq ?_ | refine W_skip ?_ | refine W_label ?_ | refine W_ret ?_ | refine W_exit ?_ | refine W_block ?_ | refine thenI ?_ | refine thenRet ?_ | refine thenExit ?_ | refine blockRet ?_ | refine blockI ?_ | refine blockExit ?_ | refine blockExitNe rfl ?_
    | (with_reducible refine W_region_k ?_
       intro K hK
       simp (maxSteps := 2000000) (disch := omega) only [WL_cons_iff, WL_nil_iff, next_defer, next_val, next_skip, next_call, next_panic, wantedV, arr_toList, arr_get?, put, Option.bind_some, Option.map_some, Option.getD_some, Option.getD_none, Option.map_none, evOp_move, evOp_assign, evOp_pick, evOp_alloc, evOp_box, evOp_build, evOp_buildSlice, evOp_load, evOp_store, evOp_nilCheck, evOp_binOp, evOp_unOp, evOp_convert, evOp_makeInterface, evOp_makeFunc, evOp_makeSlice, evOp_slice, evOp_fieldAddr, evOp_field, evOp_indexAddr, evOp_index, evOp_extract, evOp_typeAssert, evOp_call, evOp_defer, evOp_panic, opd, ofValue, ofCell, Tm.get_setb, cond_true, cond_false, Nat.reduceBEq, ne_eq, Nat.reduceEqDiff, not_false_eq_true, ↓reduceIte, if_true, if_false, Option.isNone_none, Bool.and_self, Bool.and_true, beq_self_eq_true, filled_rs, filled_nilS, mapOpd, List.map_cons, List.map_nil, bin, intBin, un, idx, Go.Ev.builtin, calleeOf, List.getElem?_toArray, List.toList_toArray, filled_int, filled_bool, filled_str, filled_sl, filled_ifc, filled_nilI, filled_rs, filled_ptr, filled_fn, filled_nilS, snaps_nil, snaps_cons, snap_int, snap_bool, snap_str, snap_sl, snap_nilS, snap_ifc, snap_nilI, snap_rs, snap_ptr, snap_cptr, snap_fn, frzs_nil, frzs_cons, frz_int, frz_bool, frz_str, frz_sl, frz_nilS, frz_ifc, frz_nilI, frz_ptr, frz_cptr, frz_fn, frz_rs, unNil_int, unNil_bool, unNil_str, unNil_sl, unNil_ifc, unNil_nilI, unNil_ptr, unNil_fn, unNil_rs, unNil_nilS, Nat.lt_irrefl, V.isNilS, V.depthOk, depth1, V.ok1, setElem, Nat.zero_add, Nat.add_zero, Nat.mul_one, Nat.one_mul, Mem.newRef_eq, Mem.gen_nil, Mem.gen_new, Mem.gen_set, Mem.row_new, Mem.row_setW, Mem.new_out, Mem.set_out, List.length_nil, List.length_cons, Nat.zero_le, Nat.le_refl, Nat.reduceLeDiff, Nat.reduceAdd, and_self, and_true, true_and, List.set_cons_zero, List.set_cons_succ, false_and, and_false, or_false, false_or, or_true, true_or, List.any_cons, List.any_nil, Bool.or_false, Bool.false_or, Bool.or_true, Bool.true_or, List.isEmpty_nil, List.isEmpty_cons, refs_int, refs_bool, refs_str, refs_sl, refs_ifc, refs_nilI, refs_ptr, refs_rs, refs_fn, refs_agg, loose_int, loose_bool, loose_str, loose_sl, loose_ifc, loose_nilI, loose_nilS, loose_ptr, loose_rs, loose_fn, pick, Go.Ev.part, width_int, width_bool, width_str, width_sl, width_rs, width_nilS, width_nilI, width_ifc, width_ptr, width_cptr, width_fn, width_agg, V.isAgg, V.cells, Int.toNat_natCast, Nat.reduceAdd, Nat.reduceMul, Nat.reduceSub, Nat.reduceLeDiff, Nat.reduceBEq, Nat.reduceLT, Int.reduceAdd, Int.reduceSub, Int.reduceMul, Int.reduceLT, Int.reduceLE, Int.reduceToNat, Int.reduceNeg, ite_yes, beq_iff_eq, decide_eq_true_eq, List.nil_append, List.append_nil, Option.some.injEq, if_true, if_false, ite_true, ite_false, reduceIte, reduceCtorEq, Bool.false_eq_true, decide_true, decide_false, List.getElem?_cons_zero, List.getElem?_cons_succ, beq_self_eq_true, and_self, and_true, true_and, Bool.not_true, Bool.not_false, isConst, ↓reduceIte, X_P, Tryd.underlying3, c3, b3, a3, k3, z3, Tryd.underlying4, c4, b4, a4, k4, z4, Tryd.underlying5, c5, b5, a5, k5, z5, Tryd.underlying9, c9, b9, a9, k9, z9, Tryd.underlying20, c20, b20, a20, k20, Tryd.underlying22, c22, b22, a22, k22, z22, e22, Tryd.underlying23, c23, b23, a23, k23, z23, Tryd.underlying32, c32, b32, a32, k32, z32, p32, Tryd.underlying45, c45, b45, a45, k45, z45, e45, Tryd.underlying54, c54, b54, a54, k54, z54, p54, Tryd.underlying61, c61, b61, a61, k61, z61, e61, Tryd.underlying64, c64, b64, a64, k64, z64, e64, Tryd.underlying69, c69, b69, a69, k69, z69, p69, Tryd.underlying76, c76, b76, a76, k76, z76, p76, Tryd.underlying84, c84, b84, a84, k84, z84, p84, Tryd.underlying94, c94, b94, a94, k94, z94, e94, Tryd.underlying95, c95, b95, a95, k95, z95, e95, Tryd.underlying98, c98, b98, a98, k98, z98, p98, Tryd.underlying100, c100, b100, a100, k100, z100, p100, Tryd.underlying116, c116, b116, a116, k116, z116, e116, Tryd.underlying119, c119, b119, a119, k119, z119, p119, Tryd.underlying142, c142, b142, a142, k142, z142, p142, Tryd.underlying143, c143, b143, a143, k143, z143, p143, Tryd.underlying152, c152, b152, a152, k152, z152, p152, Tryd.underlying154, c154, b154, a154, k154, z154, Tryd.underlying157, c157, b157, a157, k157, z157, e157, Tryd.underlying159, c159, b159, a159, k159, z159, p159, cut_one, cut_nats, nats_snoc, nats_length, nats_width, ints_width, maxLen_eq, appendTo, elemsOf, fillElems, elemOk, List.zip_cons_cons, List.zip_nil_left, List.zip_nil_right, List.replicate_one, List.all_cons, List.all_nil, Option.isSome_some, Nat.le_refl, List.length_append, List.map_cons, List.map_nil, Bool.and_true, Bool.true_and, bounds, loOf, hiOf, Bool.not_false, wc_length, wc_get, wc_splice, wc_loose, wc_nil, wc_zero, wc_take, filled_wc, snap_wc, frz_wc, rowsOf_wc, ptrs_wc, mv_wc, mv2_wc, depth_wc, unNil_wc, wc_nilIn, nats_zero, h0, h1, hm]
       refine hK _ _ ?_
       clear hK K)
    | (refine W_draw_k (by decide +kernel) ?_
       intro K hK
       simp (maxSteps := 2000000) (disch := omega) only [WL_cons_iff, WL_nil_iff, next_defer, next_val, next_skip, next_call, next_panic, wantedV, arr_toList, arr_get?, put, Option.bind_some, Option.map_some, Option.getD_some, Option.getD_none, Option.map_none, evOp_move, evOp_assign, evOp_pick, evOp_alloc, evOp_box, evOp_build, evOp_buildSlice, evOp_load, evOp_store, evOp_nilCheck, evOp_binOp, evOp_unOp, evOp_convert, evOp_makeInterface, evOp_makeFunc, evOp_makeSlice, evOp_slice, evOp_fieldAddr, evOp_field, evOp_indexAddr, evOp_index, evOp_extract, evOp_typeAssert, evOp_call, evOp_defer, evOp_panic, opd, ofValue, ofCell, Tm.get_setb, cond_true, cond_false, Nat.reduceBEq, ne_eq, Nat.reduceEqDiff, not_false_eq_true, ↓reduceIte, if_true, if_false, Option.isNone_none, Bool.and_self, Bool.and_true, beq_self_eq_true, filled_rs, filled_nilS, mapOpd, List.map_cons, List.map_nil, bin, intBin, un, idx, Go.Ev.builtin, calleeOf, List.getElem?_toArray, List.toList_toArray, filled_int, filled_bool, filled_str, filled_sl, filled_ifc, filled_nilI, filled_rs, filled_ptr, filled_fn, filled_nilS, snaps_nil, snaps_cons, snap_int, snap_bool, snap_str, snap_sl, snap_nilS, snap_ifc, snap_nilI, snap_rs, snap_ptr, snap_cptr, snap_fn, frzs_nil, frzs_cons, frz_int, frz_bool, frz_str, frz_sl, frz_nilS, frz_ifc, frz_nilI, frz_ptr, frz_cptr, frz_fn, frz_rs, unNil_int, unNil_bool, unNil_str, unNil_sl, unNil_ifc, unNil_nilI, unNil_ptr, unNil_fn, unNil_rs, unNil_nilS, Nat.lt_irrefl, V.isNilS, V.depthOk, depth1, V.ok1, setElem, Nat.zero_add, Nat.add_zero, Nat.mul_one, Nat.one_mul, Mem.newRef_eq, Mem.gen_nil, Mem.gen_new, Mem.gen_set, Mem.row_new, Mem.row_setW, Mem.new_out, Mem.set_out, List.length_nil, List.length_cons, Nat.zero_le, Nat.le_refl, Nat.reduceLeDiff, Nat.reduceAdd, and_self, and_true, true_and, List.set_cons_zero, List.set_cons_succ, false_and, and_false, or_false, false_or, or_true, true_or, List.any_cons, List.any_nil, Bool.or_false, Bool.false_or, Bool.or_true, Bool.true_or, List.isEmpty_nil, List.isEmpty_cons, refs_int, refs_bool, refs_str, refs_sl, refs_ifc, refs_nilI, refs_ptr, refs_rs, refs_fn, refs_agg, loose_int, loose_bool, loose_str, loose_sl, loose_ifc, loose_nilI, loose_nilS, loose_ptr, loose_rs, loose_fn, pick, Go.Ev.part, width_int, width_bool, width_str, width_sl, width_rs, width_nilS, width_nilI, width_ifc, width_ptr, width_cptr, width_fn, width_agg, V.isAgg, V.cells, Int.toNat_natCast, Nat.reduceAdd, Nat.reduceMul, Nat.reduceSub, Nat.reduceLeDiff, Nat.reduceBEq, Nat.reduceLT, Int.reduceAdd, Int.reduceSub, Int.reduceMul, Int.reduceLT, Int.reduceLE, Int.reduceToNat, Int.reduceNeg, ite_yes, beq_iff_eq, decide_eq_true_eq, List.nil_append, List.append_nil, Option.some.injEq, if_true, if_false, ite_true, ite_false, reduceIte, reduceCtorEq, Bool.false_eq_true, decide_true, decide_false, List.getElem?_cons_zero, List.getElem?_cons_succ, beq_self_eq_true, and_self, and_true, true_and, Bool.not_true, Bool.not_false, isConst, ↓reduceIte, WD_nil, WD_cons, nextD_val, nextD_skip, nextD_call, footD_def, fok_idle, Foot_none, foot_load, foot_store, foot_assign, foot_alloc, foot_box, foot_build, foot_makeSlice, foot_buildSlice, foot_makeFunc, foot_append, foot_len, foot_min, foot_max, foot_call, foot_move, foot_pick, foot_binOp, foot_unOp, foot_convert, foot_nilCheck, foot_makeInterface, foot_slice, foot_fieldAddr, foot_field, foot_indexAddr, foot_index, foot_extract, rowsOf_int, rowsOf_bool, rowsOf_str, rowsOf_sl, rowsOf_nilS, rowsOf_cptr, rowsOf_ifc, rowsOf_fn, rowsOf_ptr, rowsOf_rs, ptrs_int, ptrs_bool, ptrs_str, ptrs_sl, ptrs_rs, ptrs_nilS, ptrs_ifc, ptrs_ptr, ptrs_fn, List.flatMap_cons, List.flatMap_nil, List.any_cons, List.any_nil, Bool.or_false, Bool.false_or, Bool.or_true, Bool.true_or, List.isEmpty_nil, Bool.not_true, List.cons_append, List.nil_append, X_P, Tryd.underlying3, c3, b3, a3, k3, z3, Tryd.underlying4, c4, b4, a4, k4, z4, Tryd.underlying5, c5, b5, a5, k5, z5, Tryd.underlying9, c9, b9, a9, k9, z9, Tryd.underlying20, c20, b20, a20, k20, Tryd.underlying22, c22, b22, a22, k22, z22, e22, Tryd.underlying23, c23, b23, a23, k23, z23, Tryd.underlying32, c32, b32, a32, k32, z32, p32, Tryd.underlying45, c45, b45, a45, k45, z45, e45, Tryd.underlying54, c54, b54, a54, k54, z54, p54, Tryd.underlying61, c61, b61, a61, k61, z61, e61, Tryd.underlying64, c64, b64, a64, k64, z64, e64, Tryd.underlying69, c69, b69, a69, k69, z69, p69, Tryd.underlying76, c76, b76, a76, k76, z76, p76, Tryd.underlying84, c84, b84, a84, k84, z84, p84, Tryd.underlying94, c94, b94, a94, k94, z94, e94, Tryd.underlying95, c95, b95, a95, k95, z95, e95, Tryd.underlying98, c98, b98, a98, k98, z98, p98, Tryd.underlying100, c100, b100, a100, k100, z100, p100, Tryd.underlying116, c116, b116, a116, k116, z116, e116, Tryd.underlying119, c119, b119, a119, k119, z119, p119, Tryd.underlying142, c142, b142, a142, k142, z142, p142, Tryd.underlying143, c143, b143, a143, k143, z143, p143, Tryd.underlying152, c152, b152, a152, k152, z152, p152, Tryd.underlying154, c154, b154, a154, k154, z154, Tryd.underlying157, c157, b157, a157, k157, z157, e157, Tryd.underlying159, c159, b159, a159, k159, z159, p159, cut_one, cut_nats, nats_snoc, nats_length, nats_width, ints_width, maxLen_eq, appendTo, elemsOf, fillElems, elemOk, List.zip_cons_cons, List.zip_nil_left, List.zip_nil_right, List.replicate_one, List.all_cons, List.all_nil, Option.isSome_some, Nat.le_refl, List.length_append, List.map_cons, List.map_nil, Bool.and_true, Bool.true_and, bounds, loOf, hiOf, Bool.not_false, wc_length, wc_get, wc_splice, wc_loose, wc_nil, wc_zero, wc_take, filled_wc, snap_wc, frz_wc, rowsOf_wc, ptrs_wc, mv_wc, mv2_wc, depth_wc, unNil_wc, wc_nilIn, nats_zero, h0, h1, hm]
       repeat (refine ⟨by decide +kernel, ?_⟩)
       refine hK _ _ ?_
       clear hK K))
  refine W_loopg (fun (x : List Nat × Nat) s => s.dfs = [] ∧ s.m.out.length = 0 ∧ s.t.get 2 = .ptr ⟨0, 2, 0, 1⟩ 0 0 ∧ s.t.get 5 = .ptr ⟨0, 5, 0, 1⟩ 0 0 ∧ s.t.get 6 = .rs ⟨0, 13, 0, 1⟩ 3 0 ps.length ∧
    s.t.get 14 = .sl (nats ps) ∧ s.t.get 15 = vn ps.length ∧ s.t.get 16 = vn x.1.length ∧
    s.m.row ⟨0, 2, 0, 1⟩ = some ⟨1, 100, false, false, [wv (x.2 * 60 ^ 72)]⟩ ∧ s.m.row ⟨0, 5, 0, 1⟩ = some ⟨1, 100, false, false, [.agg (wc fun _ => 0)]⟩ ∧
    s.m.row ⟨0, 13, 0, 1⟩ = some ⟨1, 3, true, false, nats (x.1 ++ List.replicate (ps.length - x.1.length) 0)⟩ ∧ x.1.length ≤ ps.length ∧
    splitF ps N = (x.1 ++ (splitF (ps.drop x.1.length) x.2).1, (splitF (ps.drop x.1.length) x.2).2) ∧ 0 < x.2 ∧ x.2 < 60 ^ 90) (fun x => ps.length - x.1.length) ([], N) ?_ ?_
  · refine ⟨hd, ?_, ?_, ?_, ?_, ?_, ?_, ?_, ?_, ?_, ?_, Nat.zero_le _, by simp, hN, hb⟩
    all_goals (try simp (maxSteps := 2000000) (disch := omega) only [SO, ofValue, ofCell, Nat.reduceBEq, Nat.reduceEqDiff, ↓reduceIte, and_self, and_true, true_and, Mem.newRef_eq, Mem.gen_nil, Mem.gen_new, Mem.gen_set, Mem.row_new, Mem.row_setW, Mem.new_out, Mem.set_out, List.length_nil, List.length_cons, Nat.zero_le, Nat.le_refl, Nat.reduceLeDiff, Nat.reduceAdd, and_self, and_true, true_and, Nat.zero_add, SWx, h0, h1, hm])
    all_goals first | rfl | simp
  clear hd ho hm h0 h1 hN hb
  rintro ⟨done, C⟩ s ⟨hd, ho, h2, h5, h6, h14, h15, h16, r2, r5, r13, hle, hsp, hC0, hCb⟩
  dsimp only at h16 r2 r13 hle hsp hC0 hCb
  repeat (first
    | with_reducible first | refine W_seq ?_ | refine W_skip ?_ | refine W_label ?_ | refine W_ret ?_ | refine W_exit ?_ | refine W_block ?_ | refine thenI ?_ | refine thenRet ?_ | refine thenExit ?_ | refine blockRet ?_ | refine blockI ?_ | refine blockExit ?_ | refine blockExitNe rfl ?_
    | (with_reducible refine W_region_k ?_
       intro K hK
       simp (maxSteps := 2000000) (disch := omega) only [SA, ofValue, ofCell, bin, intBin, un, idx, Go.Ev.builtin, calleeOf, V.isNilS, V.depthOk, depth1, V.ok1, V.isAgg, V.cells, isConst, Nat.reduceBEq, Nat.reduceEqDiff, ↓reduceIte, Nat.reduceLeDiff, Nat.reduceAdd, Nat.reduceMul, Nat.reduceSub, Nat.reduceLT, Int.reduceAdd, Int.reduceSub, Int.reduceMul, Int.reduceLT, Int.reduceLE, Int.reduceToNat, Int.reduceNeg, reduceIte, reduceCtorEq, SPx, h14, h15, h16]
       refine hK _ _ ?_
       clear hK K)
    | (refine W_draw_k (by decide +kernel) ?_
       intro K hK
       simp (maxSteps := 2000000) (disch := omega) only [SA, ofValue, ofCell, bin, intBin, un, idx, Go.Ev.builtin, calleeOf, V.isNilS, V.depthOk, depth1, V.ok1, V.isAgg, V.cells, isConst, Nat.reduceBEq, Nat.reduceEqDiff, ↓reduceIte, Nat.reduceLeDiff, Nat.reduceAdd, Nat.reduceMul, Nat.reduceSub, Nat.reduceLT, Int.reduceAdd, Int.reduceSub, Int.reduceMul, Int.reduceLT, Int.reduceLE, Int.reduceToNat, Int.reduceNeg, reduceIte, reduceCtorEq, SD, SPx, h14, h15, h16]
       repeat (refine ⟨by decide +kernel, ?_⟩)
       refine hK _ _ ?_
       clear hK K))
  with_reducible refine W_cond2 (by simp only [SO, ofValue, ofCell, Nat.reduceBEq, Nat.reduceEqDiff, ↓reduceIte]; rfl) (fun h => ?_) (fun h => ?_)
  · have h := of_decide_eq_true h
    have hlt : done.length < ps.length := by omega
    obtain ⟨p, hp⟩ : ∃ p, ps[done.length]? = some p := ⟨ps[done.length], by simp⟩
    obtain ⟨hp1, hp2⟩ := hps p (List.mem_of_getElem? hp)
    have q1 := Q101 C p hCb (by omega) (by omega)
    have hdrop : ps.drop done.length = p :: ps.drop (done.length + 1) := by
      rw [List.drop_eq_getElem_cons hlt]
      congr 1
      rw [List.getElem?_eq_getElem hlt] at hp
      exact Option.some.inj hp
    rw [hdrop, splitF_cons] at hsp
    repeat (first
      | with_reducible first | refine W_seq ?_ | refine W_skip ?_ | refine W_label ?_ | refine W_ret ?_ | refine W_exit ?_ | refine W_block ?_ | refine thenI ?_ | refine thenRet ?_ | refine thenExit ?_ | refine blockRet ?_ | refine blockI ?_ | refine blockExit ?_ | refine blockExitNe rfl ?_
      | (with_reducible refine W_region_k ?_
         intro K hK
         simp (maxSteps := 2000000) (disch := omega) only [SA, ofValue, ofCell, bin, intBin, un, idx, Go.Ev.builtin, calleeOf, V.isNilS, V.depthOk, depth1, V.ok1, V.isAgg, V.cells, isConst, Nat.reduceBEq, Nat.reduceEqDiff, ↓reduceIte, Nat.reduceLeDiff, Nat.reduceAdd, Nat.reduceMul, Nat.reduceSub, Nat.reduceLT, Int.reduceAdd, Int.reduceSub, Int.reduceMul, Int.reduceLT, Int.reduceLE, Int.reduceToNat, Int.reduceNeg, reduceIte, reduceCtorEq, SPx, SSx, appendTo, elemsOf, SWx, nats_get?, hp, h2, h5, h6, h14, h15, h16, r2, r5, r13, ho, co101, sr101, q1.iff]
         refine hK _ _ ?_
         clear hK K)
      | (refine W_draw_k (by decide +kernel) ?_
         intro K hK
         simp (maxSteps := 2000000) (disch := omega) only [SA, ofValue, ofCell, bin, intBin, un, idx, Go.Ev.builtin, calleeOf, V.isNilS, V.depthOk, depth1, V.ok1, V.isAgg, V.cells, isConst, Nat.reduceBEq, Nat.reduceEqDiff, ↓reduceIte, Nat.reduceLeDiff, Nat.reduceAdd, Nat.reduceMul, Nat.reduceSub, Nat.reduceLT, Int.reduceAdd, Int.reduceSub, Int.reduceMul, Int.reduceLT, Int.reduceLE, Int.reduceToNat, Int.reduceNeg, reduceIte, reduceCtorEq, SD, SPx, SSx, appendTo, elemsOf, SWx, nats_get?, hp, h2, h5, h6, h14, h15, h16, r2, r5, r13, ho, co101, sr101, q1.iff]
         repeat (refine ⟨by decide +kernel, ?_⟩)
         refine hK _ _ ?_
         clear hK K))
    refine W_loopg (fun (x : Nat × Nat) s => s.dfs = [] ∧ s.m.out.length = 0 ∧ s.t.get 2 = .ptr ⟨0, 2, 0, 1⟩ 0 0 ∧ s.t.get 5 = .ptr ⟨0, 5, 0, 1⟩ 0 0 ∧ s.t.get 6 = .rs ⟨0, 13, 0, 1⟩ 3 0 ps.length ∧
      s.t.get 14 = .sl (nats ps) ∧ s.t.get 15 = vn ps.length ∧ s.t.get 16 = vn done.length ∧ s.t.get 7 = vn done.length ∧ s.t.get 8 = vn p ∧
      (∃ g, s.t.get 9 = .ptr ⟨0, 9, 0, g⟩ 0 0 ∧ s.m.row ⟨0, 9, 0, g⟩ = some ⟨g, 100, false, false, [wv (x.2 / p * 60 ^ 72)]⟩) ∧ s.t.get 10 = vn (x.2 % p) ∧
      s.m.row ⟨0, 2, 0, 1⟩ = some ⟨1, 100, false, false, [wv (x.2 * 60 ^ 72)]⟩ ∧ s.m.row ⟨0, 5, 0, 1⟩ = some ⟨1, 100, false, false, [.agg (wc fun _ => 0)]⟩ ∧
      s.m.row ⟨0, 13, 0, 1⟩ = some ⟨1, 3, true, false, nats (done ++ x.1 :: List.replicate (ps.length - (done.length + 1)) 0)⟩ ∧
      mult p C = x.1 + mult p x.2 ∧ rem p C = rem p x.2 ∧ 0 < x.2 ∧ x.2 < 60 ^ 90 ∧ C = x.2 * p ^ x.1) (fun x => x.2) (0, C) ?_ ?_
    · refine ⟨hd, ?_, ?_, ?_, ?_, ?_, ?_, ?_, ?_, ?_, ⟨s.m.gen 9 0 + 1, ?_, ?_⟩, ?_, ?_, ?_, ?_, by simp, rfl, hC0, hCb, by simp⟩
      all_goals (try simp (maxSteps := 2000000) (disch := omega) only [SO, ofValue, ofCell, Nat.reduceBEq, Nat.reduceEqDiff, ↓reduceIte, and_self, and_true, true_and, Mem.newRef_eq, Mem.gen_nil, Mem.gen_new, Mem.gen_set, Mem.row_new, Mem.row_setW, Mem.new_out, Mem.set_out, List.length_nil, List.length_cons, Nat.zero_le, Nat.le_refl, Nat.reduceLeDiff, Nat.reduceAdd, and_self, and_true, true_and, Nat.zero_add, SWx, h2, h5, h6, h14, h15, h16, r2, r5, r13, ho])
      rw [show ps.length - done.length = (ps.length - (done.length + 1)) + 1 by omega, List.replicate_succ]
    clear hd ho h2 h5 h6 h14 h15 h16 r2 r5 r13 q1
    rintro ⟨c, D⟩ s ⟨hd, ho, h2, h5, h6, h14, h15, h16, h7, h8, ⟨g, h9, r9⟩, h10, r2, r5, r13, hmu, hre, hD0, hDb, hCD⟩
    dsimp only at r9 h10 r2 r13 hmu hre hD0 hDb hCD
    repeat (first
      | with_reducible first | refine W_seq ?_ | refine W_skip ?_ | refine W_label ?_ | refine W_ret ?_ | refine W_exit ?_ | refine W_block ?_ | refine thenI ?_ | refine thenRet ?_ | refine thenExit ?_ | refine blockRet ?_ | refine blockI ?_ | refine blockExit ?_ | refine blockExitNe rfl ?_
      | (with_reducible refine W_region_k ?_
         intro K hK
         simp (maxSteps := 2000000) (disch := omega) only [SA, ofValue, ofCell, bin, intBin, un, idx, Go.Ev.builtin, calleeOf, V.isNilS, V.depthOk, depth1, V.ok1, V.isAgg, V.cells, isConst, Nat.reduceBEq, Nat.reduceEqDiff, ↓reduceIte, Nat.reduceLeDiff, Nat.reduceAdd, Nat.reduceMul, Nat.reduceSub, Nat.reduceLT, Int.reduceAdd, Int.reduceSub, Int.reduceMul, Int.reduceLT, Int.reduceLE, Int.reduceToNat, Int.reduceNeg, reduceIte, reduceCtorEq, SPx, h10]
         refine hK _ _ ?_
         clear hK K)
      | (refine W_draw_k (by decide +kernel) ?_
         intro K hK
         simp (maxSteps := 2000000) (disch := omega) only [SA, ofValue, ofCell, bin, intBin, un, idx, Go.Ev.builtin, calleeOf, V.isNilS, V.depthOk, depth1, V.ok1, V.isAgg, V.cells, isConst, Nat.reduceBEq, Nat.reduceEqDiff, ↓reduceIte, Nat.reduceLeDiff, Nat.reduceAdd, Nat.reduceMul, Nat.reduceSub, Nat.reduceLT, Int.reduceAdd, Int.reduceSub, Int.reduceMul, Int.reduceLT, Int.reduceLE, Int.reduceToNat, Int.reduceNeg, reduceIte, reduceCtorEq, SD, SPx, h10]
         repeat (refine ⟨by decide +kernel, ?_⟩)
         refine hK _ _ ?_
         clear hK K))
    with_reducible refine W_cond2 (by simp only [SO, ofValue, ofCell, Nat.reduceBEq, Nat.reduceEqDiff, ↓reduceIte]; rfl) (fun h => ?_) (fun h => ?_)
    · have h : D % p = 0 := by have h' := eq_of_beq h; omega
      have hDp0 : 0 < D / p := Nat.div_pos (Nat.le_of_dvd hD0 (Nat.dvd_of_mod_eq_zero h)) (by omega)
      have hDpb : D / p < 60 ^ 90 := Nat.lt_of_le_of_lt (Nat.div_le_self _ _) hDb
      have q2 := Q101 (D / p) p hDpb (by omega) (by omega)
      have hCe : C = D / p * p ^ (c + 1) := by
        rw [Nat.pow_succ, Nat.mul_comm (p ^ c), ← Nat.mul_assoc, Nat.div_mul_cancel (Nat.dvd_of_mod_eq_zero h)]; exact hCD
      have hc : c + 1 < 540 := by
        have g2 : p ^ (c + 1) ≤ C := by rw [hCe]; exact Nat.le_mul_of_pos_left _ hDp0
        have g3 := mult_bound 90 hp1 g2 hCb
        omega
      have hg : (done ++ c :: List.replicate (ps.length - (done.length + 1)) 0)[done.length]? = some c := by
        rw [List.getElem?_append_right (Nat.le_refl _), Nat.sub_self]; rfl
      have hset : (done ++ c :: List.replicate (ps.length - (done.length + 1)) 0).set done.length (c + 1) = done ++ (c + 1) :: List.replicate (ps.length - (done.length + 1)) 0 := by
        rw [List.set_append_right _ _ (Nat.le_refl _), Nat.sub_self]; rfl
      have hmu' := mult_yes hp1 hD0 h
      have hre' := rem_yes hp1 hD0 h
      clear hCD hsp hdrop hle
      repeat (first
        | with_reducible first | refine W_seq ?_ | refine W_skip ?_ | refine W_label ?_ | refine W_ret ?_ | refine W_exit ?_ | refine W_block ?_ | refine thenI ?_ | refine thenRet ?_ | refine thenExit ?_ | refine blockRet ?_ | refine blockI ?_ | refine blockExit ?_ | refine blockExitNe rfl ?_
        | (with_reducible refine W_region_k ?_
           intro K hK
           simp (maxSteps := 2000000) (disch := omega) only [SA, ofValue, ofCell, bin, intBin, un, idx, Go.Ev.builtin, calleeOf, V.isNilS, V.depthOk, depth1, V.ok1, V.isAgg, V.cells, isConst, Nat.reduceBEq, Nat.reduceEqDiff, ↓reduceIte, Nat.reduceLeDiff, Nat.reduceAdd, Nat.reduceMul, Nat.reduceSub, Nat.reduceLT, Int.reduceAdd, Int.reduceSub, Int.reduceMul, Int.reduceLT, Int.reduceLE, Int.reduceToNat, Int.reduceNeg, reduceIte, reduceCtorEq, SPx, SSx, appendTo, elemsOf, SWx, SCx, Int.reduceEq, nats_get?, nats_set, hg, hset, h2, h5, h6, h7, h8, h9, h10, r2, r5, r9, r13, ho, co101, sr101, q2.iff]
           refine hK _ _ ?_
           clear hK K)
        | (refine W_draw_k (by decide +kernel) ?_
           intro K hK
           simp (maxSteps := 2000000) (disch := omega) only [SA, ofValue, ofCell, bin, intBin, un, idx, Go.Ev.builtin, calleeOf, V.isNilS, V.depthOk, depth1, V.ok1, V.isAgg, V.cells, isConst, Nat.reduceBEq, Nat.reduceEqDiff, ↓reduceIte, Nat.reduceLeDiff, Nat.reduceAdd, Nat.reduceMul, Nat.reduceSub, Nat.reduceLT, Int.reduceAdd, Int.reduceSub, Int.reduceMul, Int.reduceLT, Int.reduceLE, Int.reduceToNat, Int.reduceNeg, reduceIte, reduceCtorEq, SD, SPx, SSx, appendTo, elemsOf, SWx, SCx, Int.reduceEq, nats_get?, nats_set, hg, hset, h2, h5, h6, h7, h8, h9, h10, r2, r5, r9, r13, ho, co101, sr101, q2.iff]
           repeat (refine ⟨by decide +kernel, ?_⟩)
           refine hK _ _ ?_
           clear hK K))
      refine ⟨(c + 1, D / p), ⟨hd, ?_, ?_, ?_, ?_, ?_, ?_, ?_, ?_, ?_, ⟨s.m.gen 9 0 + 1, ?_, ?_⟩, ?_, ?_, ?_, ?_, by dsimp only; omega, by dsimp only; rw [hre, hre'], hDp0, hDpb, hCe⟩, Nat.div_lt_self hD0 hp1⟩
      all_goals (try simp (maxSteps := 2000000) (disch := omega) only [SO, ofValue, ofCell, Nat.reduceBEq, Nat.reduceEqDiff, ↓reduceIte, and_self, and_true, true_and, Mem.newRef_eq, Mem.gen_nil, Mem.gen_new, Mem.gen_set, Mem.row_new, Mem.row_setW, Mem.new_out, Mem.set_out, List.length_nil, List.length_cons, Nat.zero_le, Nat.le_refl, Nat.reduceLeDiff, Nat.reduceAdd, and_self, and_true, true_and, Nat.zero_add, SWx, h2, h5, h6, h7, h8, h14, h15, h16, r5, ho, hset])
    · have h : D % p ≠ 0 := by have h' := ne_of_beq_false h; omega
      rw [mult_no h, Nat.add_zero] at hmu
      rw [rem_no h] at hre
      repeat (first
        | with_reducible first | refine W_seq ?_ | refine W_skip ?_ | refine W_label ?_ | refine W_ret ?_ | refine W_exit ?_ | refine W_block ?_ | refine thenI ?_ | refine thenRet ?_ | refine thenExit ?_ | refine blockRet ?_ | refine blockI ?_ | refine blockExit ?_ | refine blockExitNe rfl ?_
        | (with_reducible refine W_region_k ?_
           intro K hK
           simp (maxSteps := 2000000) (disch := omega) only [SA, ofValue, ofCell, bin, intBin, un, idx, Go.Ev.builtin, calleeOf, V.isNilS, V.depthOk, depth1, V.ok1, V.isAgg, V.cells, isConst, Nat.reduceBEq, Nat.reduceEqDiff, ↓reduceIte, Nat.reduceLeDiff, Nat.reduceAdd, Nat.reduceMul, Nat.reduceSub, Nat.reduceLT, Int.reduceAdd, Int.reduceSub, Int.reduceMul, Int.reduceLT, Int.reduceLE, Int.reduceToNat, Int.reduceNeg, reduceIte, reduceCtorEq, SPx, SCx, Int.reduceEq, h16]
           refine hK _ _ ?_
           clear hK K)
        | (refine W_draw_k (by decide +kernel) ?_
           intro K hK
           simp (maxSteps := 2000000) (disch := omega) only [SA, ofValue, ofCell, bin, intBin, un, idx, Go.Ev.builtin, calleeOf, V.isNilS, V.depthOk, depth1, V.ok1, V.isAgg, V.cells, isConst, Nat.reduceBEq, Nat.reduceEqDiff, ↓reduceIte, Nat.reduceLeDiff, Nat.reduceAdd, Nat.reduceMul, Nat.reduceSub, Nat.reduceLT, Int.reduceAdd, Int.reduceSub, Int.reduceMul, Int.reduceLT, Int.reduceLE, Int.reduceToNat, Int.reduceNeg, reduceIte, reduceCtorEq, SD, SPx, SCx, Int.reduceEq, h16]
           repeat (refine ⟨by decide +kernel, ?_⟩)
           refine hK _ _ ?_
           clear hK K))
      refine ⟨(done ++ [mult p C], rem p C), ⟨hd, ?_, ?_, ?_, ?_, ?_, ?_, ?_, ?_, ?_, ?_, ?_, ?_, ?_, ?_⟩, ?_⟩
      all_goals (try simp (maxSteps := 2000000) (disch := omega) only [SO, ofValue, ofCell, Nat.reduceBEq, Nat.reduceEqDiff, ↓reduceIte, and_self, and_true, true_and, Mem.newRef_eq, Mem.gen_nil, Mem.gen_new, Mem.gen_set, Mem.row_new, Mem.row_setW, Mem.new_out, Mem.set_out, List.length_nil, List.length_cons, Nat.zero_le, Nat.le_refl, Nat.reduceLeDiff, Nat.reduceAdd, and_self, and_true, true_and, Nat.zero_add, SWx, h2, h5, h6, h14, h15, h16, r2, r5, r13, ho, hmu, hre, List.length_append, List.length_cons, List.length_nil, Nat.zero_add, List.append_assoc, List.cons_append, List.nil_append])
      · omega
      · rw [hsp, hmu, hre]
      · exact hD0
      · exact hDb
      · omega
  · have h := of_decide_eq_false h
    have hdl : done.length = ps.length := by omega
    rw [List.drop_eq_nil_of_le (by omega)] at hsp
    simp only [splitF, List.append_nil] at hsp
    rw [hdl, Nat.sub_self, List.replicate_zero, List.append_nil] at r13
    have hcut : cut (nats done) 0 ps.length = nats done := by rw [← hdl]; exact cut_nats _
    rw [hsp]
    repeat (first
      | with_reducible first | refine W_seq ?_ | refine W_skip ?_ | refine W_label ?_ | refine W_ret ?_ | refine W_exit ?_ | refine W_block ?_ | refine thenI ?_ | refine thenRet ?_ | refine thenExit ?_ | refine blockRet ?_ | refine blockI ?_ | refine blockExit ?_ | refine blockExitNe rfl ?_
      | (with_reducible refine W_region_k ?_
         intro K hK
         simp (maxSteps := 2000000) (disch := omega) only [SA, ofValue, ofCell, bin, intBin, un, idx, Go.Ev.builtin, calleeOf, V.isNilS, V.depthOk, depth1, V.ok1, V.isAgg, V.cells, isConst, Nat.reduceBEq, Nat.reduceEqDiff, ↓reduceIte, Nat.reduceLeDiff, Nat.reduceAdd, Nat.reduceMul, Nat.reduceSub, Nat.reduceLT, Int.reduceAdd, Int.reduceSub, Int.reduceMul, Int.reduceLT, Int.reduceLE, Int.reduceToNat, Int.reduceNeg, reduceIte, reduceCtorEq, SPx, SAx, SSx, appendTo, elemsOf, SWx, h2, h5, h6, r2, r5, r13, ho, hdl, hcut]
         refine hK _ _ ?_
         clear hK K)
      | (refine W_draw_k (by decide +kernel) ?_
         intro K hK
         simp (maxSteps := 2000000) (disch := omega) only [SA, ofValue, ofCell, bin, intBin, un, idx, Go.Ev.builtin, calleeOf, V.isNilS, V.depthOk, depth1, V.ok1, V.isAgg, V.cells, isConst, Nat.reduceBEq, Nat.reduceEqDiff, ↓reduceIte, Nat.reduceLeDiff, Nat.reduceAdd, Nat.reduceMul, Nat.reduceSub, Nat.reduceLT, Int.reduceAdd, Int.reduceSub, Int.reduceMul, Int.reduceLT, Int.reduceLE, Int.reduceToNat, Int.reduceNeg, reduceIte, reduceCtorEq, SD, SPx, SAx, SSx, appendTo, elemsOf, SWx, h2, h5, h6, r2, r5, r13, ho, hdl, hcut]
         repeat (refine ⟨by decide +kernel, ?_⟩)
         refine hK _ _ ?_
         clear hK K))
    refine end_ret hd (by simp (maxSteps := 2000000) (disch := omega) only [Tryd.results87, resVars, resVar, SA, ofValue, ofCell, bin, intBin, un, idx, Go.Ev.builtin, calleeOf, V.isNilS, V.depthOk, depth1, V.ok1, V.isAgg, V.cells, isConst, Nat.reduceBEq, Nat.reduceEqDiff, ↓reduceIte, Nat.reduceLeDiff, Nat.reduceAdd, Nat.reduceMul, Nat.reduceSub, Nat.reduceLT, Int.reduceAdd, Int.reduceSub, Int.reduceMul, Int.reduceLT, Int.reduceLE, Int.reduceToNat, Int.reduceNeg, reduceIte, reduceCtorEq, SPx, SAx, SSx, appendTo, elemsOf, SWx, h2, h5, h6, r2, r5, r13, ho, hdl, hcut]; rfl) ?_
    simp (maxSteps := 2000000) (disch := omega) only [SA, ofValue, ofCell, bin, intBin, un, idx, Go.Ev.builtin, calleeOf, V.isNilS, V.depthOk, depth1, V.ok1, V.isAgg, V.cells, isConst, Nat.reduceBEq, Nat.reduceEqDiff, ↓reduceIte, Nat.reduceLeDiff, Nat.reduceAdd, Nat.reduceMul, Nat.reduceSub, Nat.reduceLT, Int.reduceAdd, Int.reduceSub, Int.reduceMul, Int.reduceLT, Int.reduceLE, Int.reduceToNat, Int.reduceNeg, reduceIte, reduceCtorEq, true_and, and_true, Nat.zero_add, Nat.le_refl, if_true, ↓reduceIte, resOf, X_own, mv_int, mv_bool, mv_str, mv_sl, mv_nilS, mv_tup, mv2s_nil, mv2s_cons, mv2_int, mv2_bool, mv2_str, mv2_sl, mv2_nilS, Option.map_some, vi, vn, SPx, SAx, SSx, appendTo, elemsOf, SWx, h2, h5, h6, r2, r5, r13, ho, hdl, hcut]
end Go.Proofs.YtpocekfifokndaaDoor
namespace Go.Proofs.YtpocekfifokndaaDoor
open Go Go.Ev Go.Pl
set_option maxRecDepth 100000
set_option maxHeartbeats 4000000
def regS (a : List Int) : Nat × Nat × Nat × Int :=
  if chk a ≠ 0 then (0, 0, 0, chk a) else if a.length = 0 then (0, 0, 0, 9) else
  if (splitF [2, 3, 5] (numI a)).2 ≠ 1 then (0, 0, 0, 31) else (mult 2 (numI a), mult 3 (rem 2 (numI a)), mult 5 (rem 3 (rem 2 (numI a))), 0)
theorem numI_pos {a : List Int} (h : chk a = 0) (hl : a.length ≠ 0) : 0 < numI a := by
  obtain ⟨h1, h2, h3, h4, h5⟩ := chk_ok h
  rcases Nat.eq_zero_or_pos (numI a) with h0 | h0
  · exfalso
    have hlt : ∀ d ∈ (natsOf a).reverse, d < 60 := fun d hd => h2 d (List.mem_reverse.1 hd)
    obtain ⟨d, hd⟩ : ∃ d, a[0]? = some d := ⟨a[0]'(by omega), by simp⟩
    have hn : (natsOf a)[0]? = some d.toNat := by rw [natsOf, List.getElem?_map, hd]; rfl
    have hdig := num_dig hlt (a.length - 1)
    rw [show numL (natsOf a).reverse = 0 from h0, List.getD_eq_getElem?_getD, List.getElem?_reverse (by omega), show (natsOf a).length - 1 - (a.length - 1) = 0 by omega, hn] at hdig
    have hz : d.toNat = 0 := by simpa [dig] using hdig.symm
    have hne := (h5 (by omega)).1
    have hd0 : d ≠ 0 := fun e => hne (by rw [hd, e])
    have hdi : ints a = nats (natsOf a) := h1
    have := congrArg (fun l => l[0]?) hdi
    simp only [ints_get?, nats_get?, hd, hn, Option.map_some, Option.some.injEq, V.int.injEq, true_and] at this
    omega
  · exact h0
theorem cut3 (a b c : V) : cut [a, b, c] 0 3 = [a, b, c] := rfl
theorem rep3 (v : V) : List.replicate 3 v = [v, v, v] := rfl
theorem P31 (a : List Int) : Ans X 31 [.sl (ints a)] (.ret (.tup [vn (regS a).1, vn (regS a).2.1, vn (regS a).2.2.1, vi (regS a).2.2.2])) := by
  refine call_of_X (fn := Tryd.f31) 1 Tryd.func31 rfl (by decide +kernel) rfl ?_ ?_ ?_ ?_
  · rfl
  · exact fun _ => rfl
  · intro v hv; injection hv with hv; subst hv; rfl
  intro s hs hd ho
  have hm : s.m = ⟨.nil, []⟩ := by subst hs; rfl
  have h0 : s.t.get 0 = .sl (ints a) := by subst hs; rfl
  clear hs
  repeat (first
    | with_reducible first | refine W_seq ?_ | refine W_skip ?_ | refine W_label ?_ | refine W_ret ?_ | refine W_exit ?_ | refine W_block ?_ | refine thenI ?_ | refine thenRet ?_ | refine thenExit ?_ | refine blockRet ?_ | refine blockI ?_ | refine blockExit ?_ | refine blockExitNe rfl ?_
    | (with_reducible refine W_region_k ?_
       intro K hK
       simp (maxSteps := 2000000) (disch := omega) only [SA, ofValue, ofCell, bin, intBin, un, idx, Go.Ev.builtin, calleeOf, V.isNilS, V.depthOk, depth1, V.ok1, V.isAgg, V.cells, isConst, Nat.reduceBEq, Nat.reduceEqDiff, ↓reduceIte, Nat.reduceLeDiff, Nat.reduceAdd, Nat.reduceMul, Nat.reduceSub, Nat.reduceLT, Int.reduceAdd, Int.reduceSub, Int.reduceMul, Int.reduceLT, Int.reduceLE, Int.reduceToNat, Int.reduceNeg, reduceIte, reduceCtorEq, SPx, h0, hm, co28, sr28, (P28 a).iff]
       refine hK _ _ ?_
       clear hK K)
    | (refine W_draw_k (by decide +kernel) ?_
       intro K hK
       simp (maxSteps := 2000000) (disch := omega) only [SA, ofValue, ofCell, bin, intBin, un, idx, Go.Ev.builtin, calleeOf, V.isNilS, V.depthOk, depth1, V.ok1, V.isAgg, V.cells, isConst, Nat.reduceBEq, Nat.reduceEqDiff, ↓reduceIte, Nat.reduceLeDiff, Nat.reduceAdd, Nat.reduceMul, Nat.reduceSub, Nat.reduceLT, Int.reduceAdd, Int.reduceSub, Int.reduceMul, Int.reduceLT, Int.reduceLE, Int.reduceToNat, Int.reduceNeg, reduceIte, reduceCtorEq, SD, SPx, h0, hm, co28, sr28, (P28 a).iff]
       repeat (refine ⟨by decide +kernel, ?_⟩)
       refine hK _ _ ?_
       clear hK K))
  with_reducible refine W_cond2 (by simp only [SO, ofValue, ofCell, Nat.reduceBEq, Nat.reduceEqDiff, ↓reduceIte]; rfl) (fun h => ?_) (fun h => ?_)
  · have h : chk a ≠ 0 := by simpa using h
    repeat (first
      | with_reducible first | refine W_seq ?_ | refine W_skip ?_ | refine W_label ?_ | refine W_ret ?_ | refine W_exit ?_ | refine W_block ?_ | refine thenI ?_ | refine thenRet ?_ | refine thenExit ?_ | refine blockRet ?_ | refine blockI ?_ | refine blockExit ?_ | refine blockExitNe rfl ?_
      | (with_reducible refine W_region_k ?_
         intro K hK
         simp (maxSteps := 2000000) (disch := omega) only [SA, ofValue, ofCell, bin, intBin, un, idx, Go.Ev.builtin, calleeOf, V.isNilS, V.depthOk, depth1, V.ok1, V.isAgg, V.cells, isConst, Nat.reduceBEq, Nat.reduceEqDiff, ↓reduceIte, Nat.reduceLeDiff, Nat.reduceAdd, Nat.reduceMul, Nat.reduceSub, Nat.reduceLT, Int.reduceAdd, Int.reduceSub, Int.reduceMul, Int.reduceLT, Int.reduceLE, Int.reduceToNat, Int.reduceNeg, reduceIte, reduceCtorEq, SPx]
         refine hK _ _ ?_
         clear hK K)
      | (refine W_draw_k (by decide +kernel) ?_
         intro K hK
         simp (maxSteps := 2000000) (disch := omega) only [SA, ofValue, ofCell, bin, intBin, un, idx, Go.Ev.builtin, calleeOf, V.isNilS, V.depthOk, depth1, V.ok1, V.isAgg, V.cells, isConst, Nat.reduceBEq, Nat.reduceEqDiff, ↓reduceIte, Nat.reduceLeDiff, Nat.reduceAdd, Nat.reduceMul, Nat.reduceSub, Nat.reduceLT, Int.reduceAdd, Int.reduceSub, Int.reduceMul, Int.reduceLT, Int.reduceLE, Int.reduceToNat, Int.reduceNeg, reduceIte, reduceCtorEq, SD, SPx]
         repeat (refine ⟨by decide +kernel, ?_⟩)
         refine hK _ _ ?_
         clear hK K))
    refine end_ret hd (by simp (maxSteps := 2000000) (disch := omega) only [Tryd.results31, resVars, resVar, SA, ofValue, ofCell, bin, intBin, un, idx, Go.Ev.builtin, calleeOf, V.isNilS, V.depthOk, depth1, V.ok1, V.isAgg, V.cells, isConst, Nat.reduceBEq, Nat.reduceEqDiff, ↓reduceIte, Nat.reduceLeDiff, Nat.reduceAdd, Nat.reduceMul, Nat.reduceSub, Nat.reduceLT, Int.reduceAdd, Int.reduceSub, Int.reduceMul, Int.reduceLT, Int.reduceLE, Int.reduceToNat, Int.reduceNeg, reduceIte, reduceCtorEq, SPx]; rfl) ?_
    simp (maxSteps := 2000000) (disch := omega) only [SA, ofValue, ofCell, bin, intBin, un, idx, Go.Ev.builtin, calleeOf, V.isNilS, V.depthOk, depth1, V.ok1, V.isAgg, V.cells, isConst, Nat.reduceBEq, Nat.reduceEqDiff, ↓reduceIte, Nat.reduceLeDiff, Nat.reduceAdd, Nat.reduceMul, Nat.reduceSub, Nat.reduceLT, Int.reduceAdd, Int.reduceSub, Int.reduceMul, Int.reduceLT, Int.reduceLE, Int.reduceToNat, Int.reduceNeg, reduceIte, reduceCtorEq, true_and, and_true, Nat.zero_add, Nat.le_refl, if_true, ↓reduceIte, resOf, X_own, mv_int, mv_bool, mv_str, mv_sl, mv_nilS, mv_tup, mv2s_nil, mv2s_cons, mv2_int, mv2_bool, mv2_str, mv2_sl, mv2_nilS, Option.map_some, vi, vn, SPx]
    rw [regS, if_pos h]; rfl
  have hc : chk a = 0 := by simpa using h
  repeat (first
    | with_reducible first | refine W_seq ?_ | refine W_skip ?_ | refine W_label ?_ | refine W_ret ?_ | refine W_exit ?_ | refine W_block ?_ | refine thenI ?_ | refine thenRet ?_ | refine thenExit ?_ | refine blockRet ?_ | refine blockI ?_ | refine blockExit ?_ | refine blockExitNe rfl ?_
    | (with_reducible refine W_region_k ?_
       intro K hK
       simp (maxSteps := 2000000) (disch := omega) only [SA, ofValue, ofCell, bin, intBin, un, idx, Go.Ev.builtin, calleeOf, V.isNilS, V.depthOk, depth1, V.ok1, V.isAgg, V.cells, isConst, Nat.reduceBEq, Nat.reduceEqDiff, ↓reduceIte, Nat.reduceLeDiff, Nat.reduceAdd, Nat.reduceMul, Nat.reduceSub, Nat.reduceLT, Int.reduceAdd, Int.reduceSub, Int.reduceMul, Int.reduceLT, Int.reduceLE, Int.reduceToNat, Int.reduceNeg, reduceIte, reduceCtorEq, SPx, h0, hm, ints_length]
       refine hK _ _ ?_
       clear hK K)
    | (refine W_draw_k (by decide +kernel) ?_
       intro K hK
       simp (maxSteps := 2000000) (disch := omega) only [SA, ofValue, ofCell, bin, intBin, un, idx, Go.Ev.builtin, calleeOf, V.isNilS, V.depthOk, depth1, V.ok1, V.isAgg, V.cells, isConst, Nat.reduceBEq, Nat.reduceEqDiff, ↓reduceIte, Nat.reduceLeDiff, Nat.reduceAdd, Nat.reduceMul, Nat.reduceSub, Nat.reduceLT, Int.reduceAdd, Int.reduceSub, Int.reduceMul, Int.reduceLT, Int.reduceLE, Int.reduceToNat, Int.reduceNeg, reduceIte, reduceCtorEq, SD, SPx, h0, hm, ints_length]
       repeat (refine ⟨by decide +kernel, ?_⟩)
       refine hK _ _ ?_
       clear hK K))
  with_reducible refine W_cond2 (by simp only [SO, ofValue, ofCell, Nat.reduceBEq, Nat.reduceEqDiff, ↓reduceIte]; rfl) (fun h => ?_) (fun h => ?_)
  · have h : a.length = 0 := by have h' := eq_of_beq h; omega
    repeat (first
      | with_reducible first | refine W_seq ?_ | refine W_skip ?_ | refine W_label ?_ | refine W_ret ?_ | refine W_exit ?_ | refine W_block ?_ | refine thenI ?_ | refine thenRet ?_ | refine thenExit ?_ | refine blockRet ?_ | refine blockI ?_ | refine blockExit ?_ | refine blockExitNe rfl ?_
      | (with_reducible refine W_region_k ?_
         intro K hK
         simp (maxSteps := 2000000) (disch := omega) only [SA, ofValue, ofCell, bin, intBin, un, idx, Go.Ev.builtin, calleeOf, V.isNilS, V.depthOk, depth1, V.ok1, V.isAgg, V.cells, isConst, Nat.reduceBEq, Nat.reduceEqDiff, ↓reduceIte, Nat.reduceLeDiff, Nat.reduceAdd, Nat.reduceMul, Nat.reduceSub, Nat.reduceLT, Int.reduceAdd, Int.reduceSub, Int.reduceMul, Int.reduceLT, Int.reduceLE, Int.reduceToNat, Int.reduceNeg, reduceIte, reduceCtorEq, SPx]
         refine hK _ _ ?_
         clear hK K)
      | (refine W_draw_k (by decide +kernel) ?_
         intro K hK
         simp (maxSteps := 2000000) (disch := omega) only [SA, ofValue, ofCell, bin, intBin, un, idx, Go.Ev.builtin, calleeOf, V.isNilS, V.depthOk, depth1, V.ok1, V.isAgg, V.cells, isConst, Nat.reduceBEq, Nat.reduceEqDiff, ↓reduceIte, Nat.reduceLeDiff, Nat.reduceAdd, Nat.reduceMul, Nat.reduceSub, Nat.reduceLT, Int.reduceAdd, Int.reduceSub, Int.reduceMul, Int.reduceLT, Int.reduceLE, Int.reduceToNat, Int.reduceNeg, reduceIte, reduceCtorEq, SD, SPx]
         repeat (refine ⟨by decide +kernel, ?_⟩)
         refine hK _ _ ?_
         clear hK K))
    refine end_ret hd (by simp (maxSteps := 2000000) (disch := omega) only [Tryd.results31, resVars, resVar, SA, ofValue, ofCell, bin, intBin, un, idx, Go.Ev.builtin, calleeOf, V.isNilS, V.depthOk, depth1, V.ok1, V.isAgg, V.cells, isConst, Nat.reduceBEq, Nat.reduceEqDiff, ↓reduceIte, Nat.reduceLeDiff, Nat.reduceAdd, Nat.reduceMul, Nat.reduceSub, Nat.reduceLT, Int.reduceAdd, Int.reduceSub, Int.reduceMul, Int.reduceLT, Int.reduceLE, Int.reduceToNat, Int.reduceNeg, reduceIte, reduceCtorEq, SPx]; rfl) ?_
    simp (maxSteps := 2000000) (disch := omega) only [SA, ofValue, ofCell, bin, intBin, un, idx, Go.Ev.builtin, calleeOf, V.isNilS, V.depthOk, depth1, V.ok1, V.isAgg, V.cells, isConst, Nat.reduceBEq, Nat.reduceEqDiff, ↓reduceIte, Nat.reduceLeDiff, Nat.reduceAdd, Nat.reduceMul, Nat.reduceSub, Nat.reduceLT, Int.reduceAdd, Int.reduceSub, Int.reduceMul, Int.reduceLT, Int.reduceLE, Int.reduceToNat, Int.reduceNeg, reduceIte, reduceCtorEq, true_and, and_true, Nat.zero_add, Nat.le_refl, if_true, ↓reduceIte, resOf, X_own, mv_int, mv_bool, mv_str, mv_sl, mv_nilS, mv_tup, mv2s_nil, mv2s_cons, mv2_int, mv2_bool, mv2_str, mv2_sl, mv2_nilS, Option.map_some, vi, vn, SPx]
    rw [regS, if_neg (fun e => e hc), if_pos h]; rfl
  have hl : a.length ≠ 0 := by have h' := ne_of_beq_false h; omega
  obtain ⟨b1, b2, b3, b4, _⟩ := chk_ok hc
  rw [b1] at h0
  have hN := numI_pos hc hl
  have hb := numI_lt hc
  have q1 : Ans X 86 [.sl (nats (natsOf a)), vi 0] (.ret (wv (numI a * 60 ^ 72))) := P86 (natsOf a) 0 72 rfl b2 (by omega)
  have q2 : Ans X 87 [wv (numI a * 60 ^ 72), .sl [vi 2, vi 3, vi 5]] _ := P87 [2, 3, 5] (numI a) (by intro p hp; simp at hp; omega) (by decide) hN (lt_pow_mono hb (by decide))
  have q3 : Ans X 88 [vi 1] (.ret (wv (1 * 60 ^ 72))) := P88 1 (by decide)
  have hR : (splitF [2, 3, 5] (numI a)).2 ≤ numI a := by
    simp only [splitF]
    exact Nat.le_trans (rem_le _ _) (Nat.le_trans (rem_le _ _) (rem_le _ _))
  have hT : (splitF [2, 3, 5] (numI a)).1 = [mult 2 (numI a), mult 3 (rem 2 (numI a)), mult 5 (rem 3 (rem 2 (numI a)))] := rfl
  rw [hT] at q2
  clear h b1 b2 b3 b4
  have hRb : (splitF [2, 3, 5] (numI a)).2 < 60 ^ 16 := Nat.lt_of_le_of_lt hR hb
  generalize hRe : (splitF [2, 3, 5] (numI a)).2 = R at q2 hRb
  have hE : allEq (dig (R * 60 ^ 72)) (dig (1 * 60 ^ 72)) 168 0 = decide (R = 1) := by
    rw [allEq_dig (by
      calc R * 60 ^ 72 < 60 ^ 16 * 60 ^ 72 := Nat.mul_lt_mul_of_pos_right hRb (by decide)
        _ ≤ 60 ^ 168 := by decide) (by decide)]
    rw [decide_eq_decide, Nat.one_mul]
    constructor
    · intro e
      have e' : R * 60 ^ 72 = 1 * 60 ^ 72 := by rw [Nat.one_mul]; exact e
      exact Nat.eq_of_mul_eq_mul_right (pow_pos 72) e'
    · rintro rfl; rw [Nat.one_mul]
  rw [show (1 * 60 ^ 72 : Nat) = 60 ^ 72 from Nat.one_mul _] at hE q3
  clear hR hb hN
  repeat (first
    | with_reducible first | refine W_seq ?_ | refine W_skip ?_ | refine W_label ?_ | refine W_ret ?_ | refine W_exit ?_ | refine W_block ?_ | refine thenI ?_ | refine thenRet ?_ | refine thenExit ?_ | refine blockRet ?_ | refine blockI ?_ | refine blockExit ?_ | refine blockExitNe rfl ?_
    | (with_reducible refine W_region_k ?_
       intro K hK
       simp (maxSteps := 2000000) (disch := omega) only [SA, ofValue, ofCell, bin, intBin, un, idx, Go.Ev.builtin, calleeOf, V.isNilS, V.depthOk, depth1, V.ok1, V.isAgg, V.cells, isConst, Nat.reduceBEq, Nat.reduceEqDiff, ↓reduceIte, Nat.reduceLeDiff, Nat.reduceAdd, Nat.reduceMul, Nat.reduceSub, Nat.reduceLT, Int.reduceAdd, Int.reduceSub, Int.reduceMul, Int.reduceLT, Int.reduceLE, Int.reduceToNat, Int.reduceNeg, reduceIte, reduceCtorEq, SPx, SSx, appendTo, elemsOf, SWx, h0, hm, rep3, cut3, ints_length, co86, sr86, co87, sr87, co88, sr88, q1.iff, q2.iff, q3.iff, eqOk100, eqT100, hE]
       refine hK _ _ ?_
       clear hK K)
    | (refine W_draw_k (by decide +kernel) ?_
       intro K hK
       simp (maxSteps := 2000000) (disch := omega) only [SA, ofValue, ofCell, bin, intBin, un, idx, Go.Ev.builtin, calleeOf, V.isNilS, V.depthOk, depth1, V.ok1, V.isAgg, V.cells, isConst, Nat.reduceBEq, Nat.reduceEqDiff, ↓reduceIte, Nat.reduceLeDiff, Nat.reduceAdd, Nat.reduceMul, Nat.reduceSub, Nat.reduceLT, Int.reduceAdd, Int.reduceSub, Int.reduceMul, Int.reduceLT, Int.reduceLE, Int.reduceToNat, Int.reduceNeg, reduceIte, reduceCtorEq, SD, SPx, SSx, appendTo, elemsOf, SWx, h0, hm, rep3, cut3, ints_length, co86, sr86, co87, sr87, co88, sr88, q1.iff, q2.iff, q3.iff, eqOk100, eqT100, hE]
       repeat (refine ⟨by decide +kernel, ?_⟩)
       refine hK _ _ ?_
       clear hK K))
  with_reducible refine W_cond2 (by simp only [SO, ofValue, ofCell, Nat.reduceBEq, Nat.reduceEqDiff, ↓reduceIte]; rfl) (fun h => ?_) (fun h => ?_)
  · have h : R ≠ 1 := by simpa using h
    repeat (first
      | with_reducible first | refine W_seq ?_ | refine W_skip ?_ | refine W_label ?_ | refine W_ret ?_ | refine W_exit ?_ | refine W_block ?_ | refine thenI ?_ | refine thenRet ?_ | refine thenExit ?_ | refine blockRet ?_ | refine blockI ?_ | refine blockExit ?_ | refine blockExitNe rfl ?_
      | (with_reducible refine W_region_k ?_
         intro K hK
         simp (maxSteps := 2000000) (disch := omega) only [SA, ofValue, ofCell, bin, intBin, un, idx, Go.Ev.builtin, calleeOf, V.isNilS, V.depthOk, depth1, V.ok1, V.isAgg, V.cells, isConst, Nat.reduceBEq, Nat.reduceEqDiff, ↓reduceIte, Nat.reduceLeDiff, Nat.reduceAdd, Nat.reduceMul, Nat.reduceSub, Nat.reduceLT, Int.reduceAdd, Int.reduceSub, Int.reduceMul, Int.reduceLT, Int.reduceLE, Int.reduceToNat, Int.reduceNeg, reduceIte, reduceCtorEq, SPx]
         refine hK _ _ ?_
         clear hK K)
      | (refine W_draw_k (by decide +kernel) ?_
         intro K hK
         simp (maxSteps := 2000000) (disch := omega) only [SA, ofValue, ofCell, bin, intBin, un, idx, Go.Ev.builtin, calleeOf, V.isNilS, V.depthOk, depth1, V.ok1, V.isAgg, V.cells, isConst, Nat.reduceBEq, Nat.reduceEqDiff, ↓reduceIte, Nat.reduceLeDiff, Nat.reduceAdd, Nat.reduceMul, Nat.reduceSub, Nat.reduceLT, Int.reduceAdd, Int.reduceSub, Int.reduceMul, Int.reduceLT, Int.reduceLE, Int.reduceToNat, Int.reduceNeg, reduceIte, reduceCtorEq, SD, SPx]
         repeat (refine ⟨by decide +kernel, ?_⟩)
         refine hK _ _ ?_
         clear hK K))
    refine end_ret hd (by simp (maxSteps := 2000000) (disch := omega) only [Tryd.results31, resVars, resVar, SA, ofValue, ofCell, bin, intBin, un, idx, Go.Ev.builtin, calleeOf, V.isNilS, V.depthOk, depth1, V.ok1, V.isAgg, V.cells, isConst, Nat.reduceBEq, Nat.reduceEqDiff, ↓reduceIte, Nat.reduceLeDiff, Nat.reduceAdd, Nat.reduceMul, Nat.reduceSub, Nat.reduceLT, Int.reduceAdd, Int.reduceSub, Int.reduceMul, Int.reduceLT, Int.reduceLE, Int.reduceToNat, Int.reduceNeg, reduceIte, reduceCtorEq, SPx]; rfl) ?_
    simp (maxSteps := 2000000) (disch := omega) only [SA, ofValue, ofCell, bin, intBin, un, idx, Go.Ev.builtin, calleeOf, V.isNilS, V.depthOk, depth1, V.ok1, V.isAgg, V.cells, isConst, Nat.reduceBEq, Nat.reduceEqDiff, ↓reduceIte, Nat.reduceLeDiff, Nat.reduceAdd, Nat.reduceMul, Nat.reduceSub, Nat.reduceLT, Int.reduceAdd, Int.reduceSub, Int.reduceMul, Int.reduceLT, Int.reduceLE, Int.reduceToNat, Int.reduceNeg, reduceIte, reduceCtorEq, true_and, and_true, Nat.zero_add, Nat.le_refl, if_true, ↓reduceIte, resOf, X_own, mv_int, mv_bool, mv_str, mv_sl, mv_nilS, mv_tup, mv2s_nil, mv2s_cons, mv2_int, mv2_bool, mv2_str, mv2_sl, mv2_nilS, Option.map_some, vi, vn, SPx]
    rw [regS, if_neg (fun e => e hc), if_neg hl, if_pos (by rw [hRe]; exact h)]; rfl
  · have h : R = 1 := by simpa using h
    repeat (first
      | with_reducible first | refine W_seq ?_ | refine W_skip ?_ | refine W_label ?_ | refine W_ret ?_ | refine W_exit ?_ | refine W_block ?_ | refine thenI ?_ | refine thenRet ?_ | refine thenExit ?_ | refine blockRet ?_ | refine blockI ?_ | refine blockExit ?_ | refine blockExitNe rfl ?_
      | (with_reducible refine W_region_k ?_
         intro K hK
         simp (maxSteps := 2000000) (disch := omega) only [SA, ofValue, ofCell, bin, intBin, un, idx, Go.Ev.builtin, calleeOf, V.isNilS, V.depthOk, depth1, V.ok1, V.isAgg, V.cells, isConst, Nat.reduceBEq, Nat.reduceEqDiff, ↓reduceIte, Nat.reduceLeDiff, Nat.reduceAdd, Nat.reduceMul, Nat.reduceSub, Nat.reduceLT, Int.reduceAdd, Int.reduceSub, Int.reduceMul, Int.reduceLT, Int.reduceLE, Int.reduceToNat, Int.reduceNeg, reduceIte, reduceCtorEq, SPx, SSx, appendTo, elemsOf, nats_get?]
         refine hK _ _ ?_
         clear hK K)
      | (refine W_draw_k (by decide +kernel) ?_
         intro K hK
         simp (maxSteps := 2000000) (disch := omega) only [SA, ofValue, ofCell, bin, intBin, un, idx, Go.Ev.builtin, calleeOf, V.isNilS, V.depthOk, depth1, V.ok1, V.isAgg, V.cells, isConst, Nat.reduceBEq, Nat.reduceEqDiff, ↓reduceIte, Nat.reduceLeDiff, Nat.reduceAdd, Nat.reduceMul, Nat.reduceSub, Nat.reduceLT, Int.reduceAdd, Int.reduceSub, Int.reduceMul, Int.reduceLT, Int.reduceLE, Int.reduceToNat, Int.reduceNeg, reduceIte, reduceCtorEq, SD, SPx, SSx, appendTo, elemsOf, nats_get?]
         repeat (refine ⟨by decide +kernel, ?_⟩)
         refine hK _ _ ?_
         clear hK K))
    refine end_ret hd (by simp (maxSteps := 2000000) (disch := omega) only [Tryd.results31, resVars, resVar, SA, ofValue, ofCell, bin, intBin, un, idx, Go.Ev.builtin, calleeOf, V.isNilS, V.depthOk, depth1, V.ok1, V.isAgg, V.cells, isConst, Nat.reduceBEq, Nat.reduceEqDiff, ↓reduceIte, Nat.reduceLeDiff, Nat.reduceAdd, Nat.reduceMul, Nat.reduceSub, Nat.reduceLT, Int.reduceAdd, Int.reduceSub, Int.reduceMul, Int.reduceLT, Int.reduceLE, Int.reduceToNat, Int.reduceNeg, reduceIte, reduceCtorEq, SPx]; rfl) ?_
    simp (maxSteps := 2000000) (disch := omega) only [SA, ofValue, ofCell, bin, intBin, un, idx, Go.Ev.builtin, calleeOf, V.isNilS, V.depthOk, depth1, V.ok1, V.isAgg, V.cells, isConst, Nat.reduceBEq, Nat.reduceEqDiff, ↓reduceIte, Nat.reduceLeDiff, Nat.reduceAdd, Nat.reduceMul, Nat.reduceSub, Nat.reduceLT, Int.reduceAdd, Int.reduceSub, Int.reduceMul, Int.reduceLT, Int.reduceLE, Int.reduceToNat, Int.reduceNeg, reduceIte, reduceCtorEq, true_and, and_true, Nat.zero_add, Nat.le_refl, if_true, ↓reduceIte, resOf, X_own, mv_int, mv_bool, mv_str, mv_sl, mv_nilS, mv_tup, mv2s_nil, mv2s_cons, mv2_int, mv2_bool, mv2_str, mv2_sl, mv2_nilS, Option.map_some, vi, vn, SPx]
    rw [regS, if_neg (fun e => e hc), if_neg hl, if_neg (by rw [hRe]; exact fun e => e h)]
end Go.Proofs.YtpocekfifokndaaDoor
namespace Go.Proofs.YtpocekfifokndaaDoor
open Go Go.Ev Go.Pl
set_option maxRecDepth 100000
set_option maxHeartbeats 4000000
theorem P89 (i j k : Nat) (hi : i < 200) (hj : j < 200) (hk : k < 200) (hb : invW i j k < 60 ^ 90) (o1 oM : Go.Ev.Rows) (r : Res) (hr : placeRes (invW i j k * 60 ^ 72) = r)
    (R : Res) (hR : (∃ es sh, r = .ret (.agg [.sl (nats es), vi sh]) ∧ R = .ret (.sl (nats es))) ∨ (∃ e, r = .panic (.ifc 23 (vi e)) ∧ R = .panic (.ifc 23 (vi e))))
    (hA : (⟨oM, []⟩ : Mem).row ⟨0, 4, 0, 1⟩ = some ⟨1, 3, false, false, [vn i]⟩) (hB : (⟨oM, []⟩ : Mem).row ⟨0, 5, 0, 1⟩ = some ⟨1, 3, false, false, [vn j]⟩) (hC : (⟨oM, []⟩ : Mem).row ⟨0, 6, 0, 1⟩ = some ⟨1, 3, false, false, [vn k]⟩) :
    AnsAt X 89 [.ptr ⟨0, 4, 0, 1⟩ 0 0, .ptr ⟨0, 5, 0, 1⟩ 0 0, .ptr ⟨0, 6, 0, 1⟩ 0 0] [o1, oM] R := by
  refine ⟨rfl, rfl, fun v hv => ?_, ?_⟩
  · rcases hR with ⟨es, sh, _, rfl⟩ | ⟨e, _, rfl⟩
    · injection hv with hv; subst hv; rfl
    · cases hv
  refine runsAt_of (X := X) (fn := Tryd.f89) Tryd.func89 rfl ⟨by decide +kernel, Nat.le_of_ble_eq_true rfl⟩ ?_
  have hd : (enter [V.ptr ⟨0, 4, 0, 1⟩ 0 0, V.ptr ⟨0, 5, 0, 1⟩ 0 0, V.ptr ⟨0, 6, 0, 1⟩ 0 0] [o1, oM]).dfs = [] := rfl
  have h0 : (enter [V.ptr ⟨0, 4, 0, 1⟩ 0 0, V.ptr ⟨0, 5, 0, 1⟩ 0 0, V.ptr ⟨0, 6, 0, 1⟩ 0 0] [o1, oM]).t.get 0 = .ptr ⟨0, 4, 0, 1⟩ 0 0 := rfl
  have h1 : (enter [V.ptr ⟨0, 4, 0, 1⟩ 0 0, V.ptr ⟨0, 5, 0, 1⟩ 0 0, V.ptr ⟨0, 6, 0, 1⟩ 0 0] [o1, oM]).t.get 1 = .ptr ⟨0, 5, 0, 1⟩ 0 0 := rfl
  have h2 : (enter [V.ptr ⟨0, 4, 0, 1⟩ 0 0, V.ptr ⟨0, 5, 0, 1⟩ 0 0, V.ptr ⟨0, 6, 0, 1⟩ 0 0] [o1, oM]).t.get 2 = .ptr ⟨0, 6, 0, 1⟩ 0 0 := rfl
  have hm : (enter [V.ptr ⟨0, 4, 0, 1⟩ 0 0, V.ptr ⟨0, 5, 0, 1⟩ 0 0, V.ptr ⟨0, 6, 0, 1⟩ 0 0] [o1, oM]).m = ⟨.nil, [o1, oM]⟩ := rfl
  generalize enter [V.ptr ⟨0, 4, 0, 1⟩ 0 0, V.ptr ⟨0, 5, 0, 1⟩ 0 0, V.ptr ⟨0, 6, 0, 1⟩ 0 0] [o1, oM] = s at *
  have hA' : (⟨.nil, [o1, oM]⟩ : Mem).row ⟨0, 4, 0, 1⟩ = some ⟨1, 3, false, false, [vn i]⟩ := by rw [row_outer _ _ _ _ (by simp), row_outer _ _ _ _ (by simp), hA]
  have hB' : (⟨.nil, [o1, oM]⟩ : Mem).row ⟨0, 5, 0, 1⟩ = some ⟨1, 3, false, false, [vn j]⟩ := by rw [row_outer _ _ _ _ (by simp), row_outer _ _ _ _ (by simp), hB]
  have hC' : (⟨.nil, [o1, oM]⟩ : Mem).row ⟨0, 6, 0, 1⟩ = some ⟨1, 3, false, false, [vn k]⟩ := by rw [row_outer _ _ _ _ (by simp), row_outer _ _ _ _ (by simp), hC]
  have q1 := P90 i j k hi hj hk hb
  have q2 := P81 (invW i j k * 60 ^ 72) (by
    calc invW i j k * 60 ^ 72 < 60 ^ 90 * 60 ^ 72 := Nat.mul_lt_mul_of_pos_right hb (by decide)
      _ ≤ 60 ^ 168 := by decide)
  rw [hr] at q2
  clear hb hr
  rcases hR with ⟨es, sh, rfl, rfl⟩ | ⟨e, rfl, rfl⟩
  · repeat (first
      | with_reducible first | refine W_seq ?_ | refine W_skip ?_ | refine W_label ?_ | refine W_ret ?_ | refine W_exit ?_ | refine W_block ?_ | refine thenI ?_ | refine thenRet ?_ | refine thenExit ?_ | refine blockRet ?_ | refine blockI ?_ | refine blockExit ?_ | refine blockExitNe rfl ?_
      | (with_reducible refine W_region_k ?_
         intro K hK
         simp (maxSteps := 2000000) (disch := omega) only [SA, ofValue, ofCell, bin, intBin, un, idx, Go.Ev.builtin, calleeOf, V.isNilS, V.depthOk, depth1, V.ok1, V.isAgg, V.cells, isConst, Nat.reduceBEq, Nat.reduceEqDiff, ↓reduceIte, Nat.reduceLeDiff, Nat.reduceAdd, Nat.reduceMul, Nat.reduceSub, Nat.reduceLT, Int.reduceAdd, Int.reduceSub, Int.reduceMul, Int.reduceLT, Int.reduceLE, Int.reduceToNat, Int.reduceNeg, reduceIte, reduceCtorEq, SPx, SAx, SWx, h0, h1, h2, hm, hA', hB', hC', co90, co81, sr90, sr81, q1.iff, q2.iff]
         refine hK _ _ ?_
         clear hK K)
    )
    refine fin_ret (X := X) (fn := Tryd.f89) (vs := [.sl (nats es)]) hd ?_ rfl rfl
    simp (maxSteps := 2000000) (disch := omega) only [SA, ofValue, ofCell, bin, intBin, un, idx, Go.Ev.builtin, calleeOf, V.isNilS, V.depthOk, depth1, V.ok1, V.isAgg, V.cells, isConst, Nat.reduceBEq, Nat.reduceEqDiff, ↓reduceIte, Nat.reduceLeDiff, Nat.reduceAdd, Nat.reduceMul, Nat.reduceSub, Nat.reduceLT, Int.reduceAdd, Int.reduceSub, Int.reduceMul, Int.reduceLT, Int.reduceLE, Int.reduceToNat, Int.reduceNeg, reduceIte, reduceCtorEq, SPx, Tryd.results89, resVars, resVar]
  · repeat (first
      | with_reducible first | refine W_seq ?_ | refine W_skip ?_ | refine W_label ?_ | refine W_ret ?_ | refine W_exit ?_ | refine W_block ?_ | refine thenI ?_ | refine thenRet ?_ | refine thenExit ?_ | refine blockRet ?_ | refine blockI ?_ | refine blockExit ?_ | refine blockExitNe rfl ?_
      | (with_reducible refine W_region_k ?_
         intro K hK
         simp (maxSteps := 2000000) (disch := omega) only [SA, ofValue, ofCell, bin, intBin, un, idx, Go.Ev.builtin, calleeOf, V.isNilS, V.depthOk, depth1, V.ok1, V.isAgg, V.cells, isConst, Nat.reduceBEq, Nat.reduceEqDiff, ↓reduceIte, Nat.reduceLeDiff, Nat.reduceAdd, Nat.reduceMul, Nat.reduceSub, Nat.reduceLT, Int.reduceAdd, Int.reduceSub, Int.reduceMul, Int.reduceLT, Int.reduceLE, Int.reduceToNat, Int.reduceNeg, reduceIte, reduceCtorEq, SPx, SAx, SWx, h0, h1, h2, hm, hA', hB', hC', co90, co81, sr90, sr81, q1.iff, q2.panics]
         refine hK _ _ ?_
         clear hK K)
    )
    exact fin_panic hd rfl rfl
end Go.Proofs.YtpocekfifokndaaDoor
namespace Go.Proofs.YtpocekfifokndaaDoor
open Go Go.Ev Go.Pl
set_option maxRecDepth 100000
set_option maxHeartbeats 4000000
theorem reg_spec {a : List Int} (h : (regS a).2.2.2 = 0) : chk a = 0 ∧ a.length ≠ 0 ∧ numI a = 2 ^ (regS a).1 * 3 ^ (regS a).2.1 * 5 ^ (regS a).2.2.1 := by
  unfold regS at h ⊢
  by_cases hc : chk a = 0
  · rw [if_neg (fun e => e hc)] at h ⊢
    by_cases hl : a.length = 0
    · rw [if_pos hl] at h; simp at h
    · rw [if_neg hl] at h ⊢
      by_cases hs : (splitF [2, 3, 5] (numI a)).2 = 1
      · rw [if_neg (fun e => e hs)]
        refine ⟨hc, hl, ?_⟩
        have h0 := numI_pos hc hl
        obtain ⟨e2, p2, _⟩ := rem_spec (p := 2) (by decide) h0
        obtain ⟨e3, p3, _⟩ := rem_spec (p := 3) (by decide) p2
        obtain ⟨e5, p5, _⟩ := rem_spec (p := 5) (by decide) p3
        simp only [splitF] at hs
        rw [hs, Nat.one_mul] at e5
        dsimp only
        rw [← Nat.mul_comm (5 ^ _), ← e5, Nat.mul_comm (2 ^ _), ← Nat.mul_assoc, ← e3]
        exact e2
      · rw [if_pos hs] at h; simp at h
  · rw [if_pos hc] at h; exact absurd h hc
theorem pow_lt_of {b n B N : Nat} (hb : 1 < b) (h : b ^ n ≤ N) (hN : N < b ^ B) : n < B := (Nat.pow_lt_pow_iff_right hb).1 (Nat.lt_of_le_of_lt h hN)
theorem reg_bounds {i j k N : Nat} (hN : N < 60 ^ 16) (h : N = 2 ^ i * 3 ^ j * 5 ^ k) : i < 95 ∧ j < 60 ∧ k < 41 := by
  have p2 : 0 < 2 ^ i := Nat.pow_pos (by decide)
  have p3 : 0 < 3 ^ j := Nat.pow_pos (by decide)
  have p5 : 0 < 5 ^ k := Nat.pow_pos (by decide)
  refine ⟨pow_lt_of (b := 2) (N := N) (by decide) ?_ (Nat.lt_trans hN (by decide)), pow_lt_of (b := 3) (N := N) (by decide) ?_ (Nat.lt_trans hN (by decide)), pow_lt_of (b := 5) (N := N) (by decide) ?_ (Nat.lt_trans hN (by decide))⟩
  · rw [h, Nat.mul_assoc]; exact Nat.le_mul_of_pos_right _ (Nat.mul_pos p3 p5)
  · rw [h, Nat.mul_comm (2 ^ i), Nat.mul_assoc]; exact Nat.le_mul_of_pos_right _ (Nat.mul_pos p2 p5)
  · rw [h]; exact Nat.le_mul_of_pos_left _ (Nat.mul_pos p2 p3)
theorem invW_le (i j k : Nat) : invW i j k ≤ 60 ^ invK i j k := by
  unfold invW
  generalize invK i j k = M
  have e : (60 : Nat) ^ M = 2 ^ (2 * M) * 3 ^ M * 5 ^ M := by rw [Nat.pow_mul, ← Nat.mul_pow, ← Nat.mul_pow]
  rw [e]
  exact Nat.mul_le_mul (Nat.mul_le_mul (Nat.pow_le_pow_right (by decide) (by omega)) (Nat.pow_le_pow_right (by decide) (by omega))) (Nat.pow_le_pow_right (by decide) (by omega))
theorem invW_pos (i j k : Nat) : 0 < invW i j k := Nat.mul_pos (Nat.mul_pos (Nat.pow_pos (by decide)) (Nat.pow_pos (by decide))) (Nat.pow_pos (by decide))
def recS (a : List Int) : List Nat × Int :=
  if (regS a).2.2.2 ≠ 0 then ([], (regS a).2.2.2) else
  if 16 < (digB (invW (regS a).1 (regS a).2.1 (regS a).2.2.1)).length then ([], 3) else (digB (invW (regS a).1 (regS a).2.1 (regS a).2.2.1), 0)
theorem placeRes_inv {W : Nat} (hp : 0 < W) (hW : W ≤ 60 ^ 60) : placeRes (W * 60 ^ 72) = if 16 < (digB W).length then .panic (.ifc 23 (vi 3)) else .ret (.agg [.sl (nats (digB W)), vi (vz W)]) := by
  have h1 : W * 60 ^ 72 ≠ 0 := Nat.mul_ne_zero (by omega) (by decide)
  have h2 := vz_lt (n := 61) hp (Nat.lt_of_le_of_lt hW (by decide))
  rw [placeRes, if_neg h1, digB_shift, vz_shift hp]
  have e : ((vz W + 72 : Nat) : Int) - 72 = (vz W : Int) := by omega
  rw [e]
  by_cases hl : 16 < (digB W).length
  · rw [if_pos hl, if_pos (.inl hl)]
  · rw [if_neg hl, if_neg (by omega)]
theorem P32 (a : List Int) : Ans X 32 [.sl (ints a)] (.ret (.tup [.sl (nats (recS a).1), vi (recS a).2])) := by
  refine call_of_X (fn := Tryd.f32) 1 Tryd.func32 rfl (by decide +kernel) rfl ?_ ?_ ?_ ?_
  · rfl
  · intro h; exact absurd h (by rw [sr32]; decide)
  · intro v hv; injection hv with hv; subst hv; rfl
  intro s hs hd ho
  have hm : s.m = ⟨.nil, []⟩ := by subst hs; rfl
  have h0 : s.t.get 0 = .sl (ints a) := by subst hs; rfl
  clear hs
  have key : ∀ (m : Mem) (dst : Nat) (K KP : V → Mem → Prop), m.out = [] → m.row ⟨0, 4, 0, 1⟩ = some ⟨1, 3, false, false, [vn (regS a).1]⟩ → m.row ⟨0, 5, 0, 1⟩ = some ⟨1, 3, false, false, [vn (regS a).2.1]⟩ → m.row ⟨0, 6, 0, 1⟩ = some ⟨1, 3, false, false, [vn (regS a).2.2.1]⟩ →
      (CallQ X 77 [vi (regS a).2.2.2, .fn 89 [] [.ptr ⟨0, 4, 0, 1⟩ 0 0, .ptr ⟨0, 5, 0, 1⟩ 0 0, .ptr ⟨0, 6, 0, 1⟩ 0 0]] m dst K KP ↔ K (.tup [.sl (nats (recS a).1), vi (recS a).2]) m) := by
    rintro ⟨own, out⟩ dst K KP ho r2 r3 r4
    dsimp only at ho
    subst ho
    by_cases h : (regS a).2.2.2 = 0
    · obtain ⟨hc, hl, hN⟩ := reg_spec h
      obtain ⟨bi, bj, bk⟩ := reg_bounds (numI_lt hc) hN
      have hK : invK (regS a).1 (regS a).2.1 (regS a).2.2.1 ≤ 60 := by unfold invK; omega
      have hW : invW (regS a).1 (regS a).2.1 (regS a).2.2.1 ≤ 60 ^ 60 := Nat.le_trans (invW_le _ _ _) (Nat.pow_le_pow_right (by decide) hK)
      have hpr := placeRes_inv (invW_pos (regS a).1 (regS a).2.1 (regS a).2.2.1) hW
      rw [h]
      by_cases hl : 16 < (digB (invW (regS a).1 (regS a).2.1 (regS a).2.2.1)).length
      · rw [if_pos hl] at hpr
        refine AnsAt.iff (m := ⟨own, []⟩) (M77 89 _ own (.panic (.ifc 23 (vi 3))) rfl co89 sr89 (fun o1 => P89 _ _ _ (by omega) (by omega) (by omega) (Nat.lt_of_le_of_lt hW (by decide)) o1 own _ hpr _ (.inr ⟨3, rfl, rfl⟩) r2 r3 r4) _ (.inr ⟨3, rfl, ?_⟩))
        rw [recS, if_neg (fun e => e h), if_pos hl]; rfl
      · rw [if_neg hl] at hpr
        refine AnsAt.iff (m := ⟨own, []⟩) (M77 89 _ own (.ret (.sl (nats (digB (invW (regS a).1 (regS a).2.1 (regS a).2.2.1))))) rfl co89 sr89 (fun o1 => P89 _ _ _ (by omega) (by omega) (by omega) (Nat.lt_of_le_of_lt hW (by decide)) o1 own _ hpr _ (.inl ⟨_, _, rfl, rfl⟩) r2 r3 r4) _ (.inl ⟨_, rfl, ?_⟩))
        rw [recS, if_neg (fun e => e h), if_neg hl]
    · refine AnsAt.iff (m := ⟨own, []⟩) ?_
      have := M77e (regS a).2.2.2 h 89 [.ptr ⟨0, 4, 0, 1⟩ 0 0, .ptr ⟨0, 5, 0, 1⟩ 0 0, .ptr ⟨0, 6, 0, 1⟩ 0 0] own rfl
      rw [recS, if_pos h]; exact this
  repeat (first
    | with_reducible first | refine W_seq ?_ | refine W_skip ?_ | refine W_label ?_ | refine W_ret ?_ | refine W_exit ?_ | refine W_block ?_ | refine thenI ?_ | refine thenRet ?_ | refine thenExit ?_ | refine blockRet ?_ | refine blockI ?_ | refine blockExit ?_ | refine blockExitNe rfl ?_
    | (with_reducible refine W_region_k ?_
       intro K hK
       simp (maxSteps := 2000000) (disch := omega) only [SA, ofValue, ofCell, bin, intBin, un, idx, Go.Ev.builtin, calleeOf, V.isNilS, V.depthOk, depth1, V.ok1, V.isAgg, V.cells, isConst, Nat.reduceBEq, Nat.reduceEqDiff, ↓reduceIte, Nat.reduceLeDiff, Nat.reduceAdd, Nat.reduceMul, Nat.reduceSub, Nat.reduceLT, Int.reduceAdd, Int.reduceSub, Int.reduceMul, Int.reduceLT, Int.reduceLE, Int.reduceToNat, Int.reduceNeg, reduceIte, reduceCtorEq, SPx, SAx, h0, hm, co31, sr31, (P31 a).iff]
       refine hK _ _ ?_
       clear hK K)
  )
  with_reducible refine W_region_k ?_
  intro K hK
  simp (maxSteps := 2000000) (disch := omega) only [SA, ofValue, ofCell, bin, intBin, un, idx, Go.Ev.builtin, calleeOf, V.isNilS, V.depthOk, depth1, V.ok1, V.isAgg, V.cells, isConst, Nat.reduceBEq, Nat.reduceEqDiff, ↓reduceIte, Nat.reduceLeDiff, Nat.reduceAdd, Nat.reduceMul, Nat.reduceSub, Nat.reduceLT, Int.reduceAdd, Int.reduceSub, Int.reduceMul, Int.reduceLT, Int.reduceLE, Int.reduceToNat, Int.reduceNeg, reduceIte, reduceCtorEq, SPx, SAx, hm, co77, sr77]
  rw [key _ _ _ _ rfl (by simp [Mem.row_new, Mem.row_setW, Mem.new_out, Mem.gen_new, Mem.gen_nil]) (by simp [Mem.row_new, Mem.row_setW, Mem.new_out, Mem.gen_new, Mem.gen_nil]) (by simp [Mem.row_new, Mem.row_setW, Mem.new_out, Mem.gen_new, Mem.gen_nil])]
  simp (maxSteps := 2000000) (disch := omega) only [SA, ofValue, ofCell, bin, intBin, un, idx, Go.Ev.builtin, calleeOf, V.isNilS, V.depthOk, depth1, V.ok1, V.isAgg, V.cells, isConst, Nat.reduceBEq, Nat.reduceEqDiff, ↓reduceIte, Nat.reduceLeDiff, Nat.reduceAdd, Nat.reduceMul, Nat.reduceSub, Nat.reduceLT, Int.reduceAdd, Int.reduceSub, Int.reduceMul, Int.reduceLT, Int.reduceLE, Int.reduceToNat, Int.reduceNeg, reduceIte, reduceCtorEq, SPx, SAx]
  refine hK _ _ ?_
  clear hK K
  repeat (first
    | with_reducible first | refine W_seq ?_ | refine W_skip ?_ | refine W_label ?_ | refine W_ret ?_ | refine W_exit ?_ | refine W_block ?_ | refine thenI ?_ | refine thenRet ?_ | refine thenExit ?_ | refine blockRet ?_ | refine blockI ?_ | refine blockExit ?_ | refine blockExitNe rfl ?_
    | (with_reducible refine W_region_k ?_
       intro K hK
       simp (maxSteps := 2000000) (disch := omega) only [SA, ofValue, ofCell, bin, intBin, un, idx, Go.Ev.builtin, calleeOf, V.isNilS, V.depthOk, depth1, V.ok1, V.isAgg, V.cells, isConst, Nat.reduceBEq, Nat.reduceEqDiff, ↓reduceIte, Nat.reduceLeDiff, Nat.reduceAdd, Nat.reduceMul, Nat.reduceSub, Nat.reduceLT, Int.reduceAdd, Int.reduceSub, Int.reduceMul, Int.reduceLT, Int.reduceLE, Int.reduceToNat, Int.reduceNeg, reduceIte, reduceCtorEq, SPx]
       refine hK _ _ ?_
       clear hK K)
  )
  refine end_ret hd (by simp (maxSteps := 2000000) (disch := omega) only [Tryd.results32, resVars, resVar, SA, ofValue, ofCell, bin, intBin, un, idx, Go.Ev.builtin, calleeOf, V.isNilS, V.depthOk, depth1, V.ok1, V.isAgg, V.cells, isConst, Nat.reduceBEq, Nat.reduceEqDiff, ↓reduceIte, Nat.reduceLeDiff, Nat.reduceAdd, Nat.reduceMul, Nat.reduceSub, Nat.reduceLT, Int.reduceAdd, Int.reduceSub, Int.reduceMul, Int.reduceLT, Int.reduceLE, Int.reduceToNat, Int.reduceNeg, reduceIte, reduceCtorEq, SPx]; rfl) ?_
  simp (maxSteps := 2000000) (disch := omega) only [SA, ofValue, ofCell, bin, intBin, un, idx, Go.Ev.builtin, calleeOf, V.isNilS, V.depthOk, depth1, V.ok1, V.isAgg, V.cells, isConst, Nat.reduceBEq, Nat.reduceEqDiff, ↓reduceIte, Nat.reduceLeDiff, Nat.reduceAdd, Nat.reduceMul, Nat.reduceSub, Nat.reduceLT, Int.reduceAdd, Int.reduceSub, Int.reduceMul, Int.reduceLT, Int.reduceLE, Int.reduceToNat, Int.reduceNeg, reduceIte, reduceCtorEq, true_and, and_true, Nat.zero_add, Nat.le_refl, if_true, ↓reduceIte, resOf, X_own, mv_int, mv_bool, mv_str, mv_sl, mv_nilS, mv_tup, mv2s_nil, mv2s_cons, mv2_int, mv2_bool, mv2_str, mv2_sl, mv2_nilS, Option.map_some, vi, vn, SPx]
end Go.Proofs.YtpocekfifokndaaDoor
namespace Go.Proofs.YtpocekfifokndaaDoor
open Go Go.Ev Go.Pl
set_option maxRecDepth 100000
set_option maxHeartbeats 4000000
theorem wr_u8 {n : Nat} (h : n < 256) : wr .u8 (n : Int) = (n : Int) := by
  simp only [wr, IntKind.wrap]
  have e : IntKind.u8.signed = false := by decide
  have e2 : IntKind.u8.bits = 8 := by decide
  rw [e, e2, Bool.false_and, if_neg (by decide)]
  omega
def decV (l : List UInt8) : Nat := l.foldl (fun n b => 10 * n + (b.toNat - 48)) 0
def partS (s : List UInt8) : Nat × Bool :=
  if s.length = 0 ∨ 2 < s.length ∨ (s.length = 2 ∧ s[0]? = some 48) then (0, false) else
  if s.all (fun b => decide (48 ≤ b.toNat) && decide (b.toNat ≤ 57)) = true then (decV s, true) else (0, false)
theorem decV_lt : ∀ (l : List UInt8), l.length ≤ 2 → (∀ b ∈ l, 48 ≤ b.toNat ∧ b.toNat ≤ 57) → decV l < 100
  | [], _, _ => by decide
  | [a], _, h => by have := h a (by simp); simp [decV]; omega
  | [a, b], _, h => by have h1 := h a (by simp); have h2 := h b (by simp); simp [decV]; omega
  | a :: b :: c :: l, h, _ => by simp at h
theorem P92 (s : List UInt8) (hs0 : s.length < 1000000000000) : Ans X 92 [.str s] (.ret (.tup [vn (partS s).1, .bool (partS s).2])) := by
  refine call_of_X (fn := Tryd.f92) 1 Tryd.func92 rfl (by decide +kernel) rfl ?_ ?_ ?_ ?_
  · rfl
  · exact fun _ => rfl
  · intro v hv; injection hv with hv; subst hv; rfl
  intro st hs hd ho
  have h0 : st.t.get 0 = .str s := by subst hs; rfl
  clear hs
  by_cases c1 : s.length = 0
  · have c1' : (((s.length : Nat) : Int) == 0) = true := by rw [c1]; rfl
    repeat (first
      | with_reducible first | refine W_seq ?_ | refine W_skip ?_ | refine W_label ?_ | refine W_ret ?_ | refine W_exit ?_ | refine W_block ?_ | refine thenI ?_ | refine thenRet ?_ | refine thenExit ?_ | refine blockRet ?_ | refine blockI ?_ | refine blockExit ?_ | refine blockExitNe rfl ?_
      | (with_reducible refine W_region_k ?_
         intro K hK
         simp (maxSteps := 2000000) (disch := omega) only [SA, ofValue, ofCell, bin, intBin, un, idx, Go.Ev.builtin, calleeOf, V.isNilS, V.depthOk, depth1, V.ok1, V.isAgg, V.cells, isConst, Nat.reduceBEq, Nat.reduceEqDiff, ↓reduceIte, Nat.reduceLeDiff, Nat.reduceAdd, Nat.reduceMul, Nat.reduceSub, Nat.reduceLT, Int.reduceAdd, Int.reduceSub, Int.reduceMul, Int.reduceLT, Int.reduceLE, Int.reduceToNat, Int.reduceNeg, reduceIte, reduceCtorEq, SPx, h0, c1']
         refine hK _ _ ?_
         clear hK K)
    )
    with_reducible refine W_cond2 (by simp only [SO, ofValue, ofCell, Nat.reduceBEq, Nat.reduceEqDiff, ↓reduceIte]; rfl) (fun h => ?_) (fun h => ?_)
    · repeat (first
        | with_reducible first | refine W_seq ?_ | refine W_skip ?_ | refine W_label ?_ | refine W_ret ?_ | refine W_exit ?_ | refine W_block ?_ | refine thenI ?_ | refine thenRet ?_ | refine thenExit ?_ | refine blockRet ?_ | refine blockI ?_ | refine blockExit ?_ | refine blockExitNe rfl ?_
        | (with_reducible refine W_region_k ?_
           intro K hK
           simp (maxSteps := 2000000) (disch := omega) only [SA, ofValue, ofCell, bin, intBin, un, idx, Go.Ev.builtin, calleeOf, V.isNilS, V.depthOk, depth1, V.ok1, V.isAgg, V.cells, isConst, Nat.reduceBEq, Nat.reduceEqDiff, ↓reduceIte, Nat.reduceLeDiff, Nat.reduceAdd, Nat.reduceMul, Nat.reduceSub, Nat.reduceLT, Int.reduceAdd, Int.reduceSub, Int.reduceMul, Int.reduceLT, Int.reduceLE, Int.reduceToNat, Int.reduceNeg, reduceIte, reduceCtorEq, SPx]
           refine hK _ _ ?_
           clear hK K)
      )
      refine end_ret hd (by simp (maxSteps := 2000000) (disch := omega) only [Tryd.results92, resVars, resVar, SA, ofValue, ofCell, bin, intBin, un, idx, Go.Ev.builtin, calleeOf, V.isNilS, V.depthOk, depth1, V.ok1, V.isAgg, V.cells, isConst, Nat.reduceBEq, Nat.reduceEqDiff, ↓reduceIte, Nat.reduceLeDiff, Nat.reduceAdd, Nat.reduceMul, Nat.reduceSub, Nat.reduceLT, Int.reduceAdd, Int.reduceSub, Int.reduceMul, Int.reduceLT, Int.reduceLE, Int.reduceToNat, Int.reduceNeg, reduceIte, reduceCtorEq, SPx]; rfl) ?_
      simp (maxSteps := 2000000) (disch := omega) only [SA, ofValue, ofCell, bin, intBin, un, idx, Go.Ev.builtin, calleeOf, V.isNilS, V.depthOk, depth1, V.ok1, V.isAgg, V.cells, isConst, Nat.reduceBEq, Nat.reduceEqDiff, ↓reduceIte, Nat.reduceLeDiff, Nat.reduceAdd, Nat.reduceMul, Nat.reduceSub, Nat.reduceLT, Int.reduceAdd, Int.reduceSub, Int.reduceMul, Int.reduceLT, Int.reduceLE, Int.reduceToNat, Int.reduceNeg, reduceIte, reduceCtorEq, true_and, and_true, Nat.zero_add, Nat.le_refl, if_true, ↓reduceIte, resOf, X_own, mv_int, mv_bool, mv_str, mv_sl, mv_nilS, mv_tup, mv2s_nil, mv2s_cons, mv2_int, mv2_bool, mv2_str, mv2_sl, mv2_nilS, Option.map_some, vi, vn, SPx]
      rw [partS, if_pos (.inl c1)]; rfl
    · simp at h
  have c1' : (((s.length : Nat) : Int) == 0) = false := by rw [beq_eq_false_iff_ne]; omega
  by_cases c2 : 2 < s.length
  · have c2' : ((s.length : Nat) : Int) > 2 := by omega
    repeat (first
      | with_reducible first | refine W_seq ?_ | refine W_skip ?_ | refine W_label ?_ | refine W_ret ?_ | refine W_exit ?_ | refine W_block ?_ | refine thenI ?_ | refine thenRet ?_ | refine thenExit ?_ | refine blockRet ?_ | refine blockI ?_ | refine blockExit ?_ | refine blockExitNe rfl ?_
      | (with_reducible refine W_region_k ?_
         intro K hK
         simp (maxSteps := 2000000) (disch := omega) only [SA, ofValue, ofCell, bin, intBin, un, idx, Go.Ev.builtin, calleeOf, V.isNilS, V.depthOk, depth1, V.ok1, V.isAgg, V.cells, isConst, Nat.reduceBEq, Nat.reduceEqDiff, ↓reduceIte, Nat.reduceLeDiff, Nat.reduceAdd, Nat.reduceMul, Nat.reduceSub, Nat.reduceLT, Int.reduceAdd, Int.reduceSub, Int.reduceMul, Int.reduceLT, Int.reduceLE, Int.reduceToNat, Int.reduceNeg, reduceIte, reduceCtorEq, SPx, h0, c1', c2']
         refine hK _ _ ?_
         clear hK K)
    )
    with_reducible refine W_cond2 (by simp only [SO, ofValue, ofCell, Nat.reduceBEq, Nat.reduceEqDiff, ↓reduceIte]; rfl) (fun h => ?_) (fun h => ?_)
    · repeat (first
        | with_reducible first | refine W_seq ?_ | refine W_skip ?_ | refine W_label ?_ | refine W_ret ?_ | refine W_exit ?_ | refine W_block ?_ | refine thenI ?_ | refine thenRet ?_ | refine thenExit ?_ | refine blockRet ?_ | refine blockI ?_ | refine blockExit ?_ | refine blockExitNe rfl ?_
        | (with_reducible refine W_region_k ?_
           intro K hK
           simp (maxSteps := 2000000) (disch := omega) only [SA, ofValue, ofCell, bin, intBin, un, idx, Go.Ev.builtin, calleeOf, V.isNilS, V.depthOk, depth1, V.ok1, V.isAgg, V.cells, isConst, Nat.reduceBEq, Nat.reduceEqDiff, ↓reduceIte, Nat.reduceLeDiff, Nat.reduceAdd, Nat.reduceMul, Nat.reduceSub, Nat.reduceLT, Int.reduceAdd, Int.reduceSub, Int.reduceMul, Int.reduceLT, Int.reduceLE, Int.reduceToNat, Int.reduceNeg, reduceIte, reduceCtorEq, SPx]
           refine hK _ _ ?_
           clear hK K)
      )
      refine end_ret hd (by simp (maxSteps := 2000000) (disch := omega) only [Tryd.results92, resVars, resVar, SA, ofValue, ofCell, bin, intBin, un, idx, Go.Ev.builtin, calleeOf, V.isNilS, V.depthOk, depth1, V.ok1, V.isAgg, V.cells, isConst, Nat.reduceBEq, Nat.reduceEqDiff, ↓reduceIte, Nat.reduceLeDiff, Nat.reduceAdd, Nat.reduceMul, Nat.reduceSub, Nat.reduceLT, Int.reduceAdd, Int.reduceSub, Int.reduceMul, Int.reduceLT, Int.reduceLE, Int.reduceToNat, Int.reduceNeg, reduceIte, reduceCtorEq, SPx]; rfl) ?_
      simp (maxSteps := 2000000) (disch := omega) only [SA, ofValue, ofCell, bin, intBin, un, idx, Go.Ev.builtin, calleeOf, V.isNilS, V.depthOk, depth1, V.ok1, V.isAgg, V.cells, isConst, Nat.reduceBEq, Nat.reduceEqDiff, ↓reduceIte, Nat.reduceLeDiff, Nat.reduceAdd, Nat.reduceMul, Nat.reduceSub, Nat.reduceLT, Int.reduceAdd, Int.reduceSub, Int.reduceMul, Int.reduceLT, Int.reduceLE, Int.reduceToNat, Int.reduceNeg, reduceIte, reduceCtorEq, true_and, and_true, Nat.zero_add, Nat.le_refl, if_true, ↓reduceIte, resOf, X_own, mv_int, mv_bool, mv_str, mv_sl, mv_nilS, mv_tup, mv2s_nil, mv2s_cons, mv2_int, mv2_bool, mv2_str, mv2_sl, mv2_nilS, Option.map_some, vi, vn, SPx]
      rw [partS, if_pos (.inr (.inl c2))]; rfl
    · simp at h
  have c2' : ¬ ((s.length : Nat) : Int) > 2 := by omega
  obtain ⟨b0, hb0⟩ : ∃ b, s[0]? = some b := ⟨s[0]'(by omega), by simp⟩
  by_cases c3 : s.length = 2 ∧ b0 = 48
  · have c3' : (((s.length : Nat) : Int) == 2) = true := by rw [c3.1]; rfl
    have c4 : (((b0.toNat : Nat) : Int) == 48) = true := by rw [c3.2]; rfl
    have hR : partS s = (0, false) := by rw [partS, if_pos (.inr (.inr ⟨c3.1, by rw [hb0, c3.2]⟩))]
    rw [hR]
    clear c3 hR c1 c2
    repeat (first
      | with_reducible first | refine W_seq ?_ | refine W_skip ?_ | refine W_label ?_ | refine W_ret ?_ | refine W_exit ?_ | refine W_block ?_ | refine thenI ?_ | refine thenRet ?_ | refine thenExit ?_ | refine blockRet ?_ | refine blockI ?_ | refine blockExit ?_ | refine blockExitNe rfl ?_
      | (with_reducible refine W_region_k ?_
         intro K hK
         simp (maxSteps := 2000000) (disch := omega) only [SA, ofValue, ofCell, bin, intBin, un, idx, Go.Ev.builtin, calleeOf, V.isNilS, V.depthOk, depth1, V.ok1, V.isAgg, V.cells, isConst, Nat.reduceBEq, Nat.reduceEqDiff, ↓reduceIte, Nat.reduceLeDiff, Nat.reduceAdd, Nat.reduceMul, Nat.reduceSub, Nat.reduceLT, Int.reduceAdd, Int.reduceSub, Int.reduceMul, Int.reduceLT, Int.reduceLE, Int.reduceToNat, Int.reduceNeg, reduceIte, reduceCtorEq, SPx, h0, c1', c2', c3', hb0, c4]
         refine hK _ _ ?_
         clear hK K)
    )
    with_reducible refine W_cond2 (by simp only [SO, ofValue, ofCell, Nat.reduceBEq, Nat.reduceEqDiff, ↓reduceIte]; rfl) (fun h => ?_) (fun h => ?_)
    · repeat (first
        | with_reducible first | refine W_seq ?_ | refine W_skip ?_ | refine W_label ?_ | refine W_ret ?_ | refine W_exit ?_ | refine W_block ?_ | refine thenI ?_ | refine thenRet ?_ | refine thenExit ?_ | refine blockRet ?_ | refine blockI ?_ | refine blockExit ?_ | refine blockExitNe rfl ?_
        | (with_reducible refine W_region_k ?_
           intro K hK
           simp (maxSteps := 2000000) (disch := omega) only [SA, ofValue, ofCell, bin, intBin, un, idx, Go.Ev.builtin, calleeOf, V.isNilS, V.depthOk, depth1, V.ok1, V.isAgg, V.cells, isConst, Nat.reduceBEq, Nat.reduceEqDiff, ↓reduceIte, Nat.reduceLeDiff, Nat.reduceAdd, Nat.reduceMul, Nat.reduceSub, Nat.reduceLT, Int.reduceAdd, Int.reduceSub, Int.reduceMul, Int.reduceLT, Int.reduceLE, Int.reduceToNat, Int.reduceNeg, reduceIte, reduceCtorEq, SPx]
           refine hK _ _ ?_
           clear hK K)
      )
      refine end_ret hd (by simp (maxSteps := 2000000) (disch := omega) only [Tryd.results92, resVars, resVar, SA, ofValue, ofCell, bin, intBin, un, idx, Go.Ev.builtin, calleeOf, V.isNilS, V.depthOk, depth1, V.ok1, V.isAgg, V.cells, isConst, Nat.reduceBEq, Nat.reduceEqDiff, ↓reduceIte, Nat.reduceLeDiff, Nat.reduceAdd, Nat.reduceMul, Nat.reduceSub, Nat.reduceLT, Int.reduceAdd, Int.reduceSub, Int.reduceMul, Int.reduceLT, Int.reduceLE, Int.reduceToNat, Int.reduceNeg, reduceIte, reduceCtorEq, SPx]; rfl) ?_
      simp (maxSteps := 2000000) (disch := omega) only [SA, ofValue, ofCell, bin, intBin, un, idx, Go.Ev.builtin, calleeOf, V.isNilS, V.depthOk, depth1, V.ok1, V.isAgg, V.cells, isConst, Nat.reduceBEq, Nat.reduceEqDiff, ↓reduceIte, Nat.reduceLeDiff, Nat.reduceAdd, Nat.reduceMul, Nat.reduceSub, Nat.reduceLT, Int.reduceAdd, Int.reduceSub, Int.reduceMul, Int.reduceLT, Int.reduceLE, Int.reduceToNat, Int.reduceNeg, reduceIte, reduceCtorEq, true_and, and_true, Nat.zero_add, Nat.le_refl, if_true, ↓reduceIte, resOf, X_own, mv_int, mv_bool, mv_str, mv_sl, mv_nilS, mv_tup, mv2s_nil, mv2s_cons, mv2_int, mv2_bool, mv2_str, mv2_sl, mv2_nilS, Option.map_some, vi, vn, SPx]
      rfl
    · simp at h
  have hc : ¬ (s.length = 0 ∨ 2 < s.length ∨ (s.length = 2 ∧ s[0]? = some 48)) := by
    rintro (h | h | ⟨h, h'⟩)
    · exact c1 h
    · exact c2 h
    · rw [hb0] at h'; exact c3 ⟨h, Option.some.inj h'⟩
  have hyes : s.all (fun b => decide (48 ≤ b.toNat) && decide (b.toNat ≤ 57)) = true → partS s = (decV s, true) := fun h => by rw [partS, if_neg hc, if_pos h]
  have hno : ∀ (k : Nat) (b : UInt8), s[k]? = some b → ¬ (48 ≤ b.toNat ∧ b.toNat ≤ 57) → partS s = (0, false) := fun k b hk hb => by
    rw [partS, if_neg hc, if_neg]
    intro h
    have := List.all_eq_true.1 h b (List.mem_of_getElem? hk)
    simp only [Bool.and_eq_true, decide_eq_true_eq] at this
    exact hb this
  have hb4 : s.length = 2 → (((b0.toNat : Nat) : Int) == 48) = false := fun h => by
    rw [beq_eq_false_iff_ne]
    intro e
    refine c3 ⟨h, ?_⟩
    apply UInt8.toNat_inj.1
    have : b0.toNat = 48 := by omega
    rw [this]; rfl
  have hl2 : s.length ≤ 2 := by omega
  clear c1 c2 c3 hc hs0
  iterate 5 (first
    | with_reducible first | refine W_seq ?_ | refine W_skip ?_ | refine W_label ?_ | refine W_ret ?_ | refine W_exit ?_ | refine W_block ?_ | refine thenI ?_ | refine thenRet ?_ | refine thenExit ?_ | refine blockRet ?_ | refine blockI ?_ | refine blockExit ?_ | refine blockExitNe rfl ?_
    | (with_reducible refine W_region_k ?_
       intro K hK
       simp (maxSteps := 2000000) (disch := omega) only [SA, ofValue, ofCell, bin, intBin, un, idx, Go.Ev.builtin, calleeOf, V.isNilS, V.depthOk, depth1, V.ok1, V.isAgg, V.cells, isConst, Nat.reduceBEq, Nat.reduceEqDiff, ↓reduceIte, Nat.reduceLeDiff, Nat.reduceAdd, Nat.reduceMul, Nat.reduceSub, Nat.reduceLT, Int.reduceAdd, Int.reduceSub, Int.reduceMul, Int.reduceLT, Int.reduceLE, Int.reduceToNat, Int.reduceNeg, reduceIte, reduceCtorEq, SPx, h0]
       refine hK _ _ ?_
       clear hK K)
  )
  refine W_mid (fun st => st.dfs = [] ∧ st.t.get 0 = .str s ∧ st.t.get 23 = .bool false) ?_ ?_
  · by_cases hq : s.length = 2
    · have c3' : (((s.length : Nat) : Int) == 2) = true := by rw [hq]; rfl
      have hb4 := hb4 hq
      repeat (first
        | with_reducible first | refine W_seq ?_ | refine W_skip ?_ | refine W_label ?_ | refine W_ret ?_ | refine W_exit ?_ | refine W_block ?_ | refine thenI ?_ | refine thenRet ?_ | refine thenExit ?_ | refine blockRet ?_ | refine blockI ?_ | refine blockExit ?_ | refine blockExitNe rfl ?_
        | (with_reducible refine W_region_k ?_
           intro K hK
           simp (maxSteps := 2000000) (disch := omega) only [SA, ofValue, ofCell, bin, intBin, un, idx, Go.Ev.builtin, calleeOf, V.isNilS, V.depthOk, depth1, V.ok1, V.isAgg, V.cells, isConst, Nat.reduceBEq, Nat.reduceEqDiff, ↓reduceIte, Nat.reduceLeDiff, Nat.reduceAdd, Nat.reduceMul, Nat.reduceSub, Nat.reduceLT, Int.reduceAdd, Int.reduceSub, Int.reduceMul, Int.reduceLT, Int.reduceLE, Int.reduceToNat, Int.reduceNeg, reduceIte, reduceCtorEq, SPx, h0, c1', c2', c3', hb0, hb4]
           refine hK _ _ ?_
           clear hK K)
      )
      refine ⟨hd, ?_, ?_⟩
      all_goals (try simp (maxSteps := 2000000) (disch := omega) only [SO, ofValue, ofCell, Nat.reduceBEq, Nat.reduceEqDiff, ↓reduceIte, and_self, and_true, true_and, Mem.newRef_eq, Mem.gen_nil, Mem.gen_new, Mem.gen_set, Mem.row_new, Mem.row_setW, Mem.new_out, Mem.set_out, List.length_nil, List.length_cons, Nat.zero_le, Nat.le_refl, Nat.reduceLeDiff, Nat.reduceAdd, and_self, and_true, true_and, Nat.zero_add, h0])
    · have c3' : (((s.length : Nat) : Int) == 2) = false := by rw [beq_eq_false_iff_ne]; omega
      repeat (first
        | with_reducible first | refine W_seq ?_ | refine W_skip ?_ | refine W_label ?_ | refine W_ret ?_ | refine W_exit ?_ | refine W_block ?_ | refine thenI ?_ | refine thenRet ?_ | refine thenExit ?_ | refine blockRet ?_ | refine blockI ?_ | refine blockExit ?_ | refine blockExitNe rfl ?_
        | (with_reducible refine W_region_k ?_
           intro K hK
           simp (maxSteps := 2000000) (disch := omega) only [SA, ofValue, ofCell, bin, intBin, un, idx, Go.Ev.builtin, calleeOf, V.isNilS, V.depthOk, depth1, V.ok1, V.isAgg, V.cells, isConst, Nat.reduceBEq, Nat.reduceEqDiff, ↓reduceIte, Nat.reduceLeDiff, Nat.reduceAdd, Nat.reduceMul, Nat.reduceSub, Nat.reduceLT, Int.reduceAdd, Int.reduceSub, Int.reduceMul, Int.reduceLT, Int.reduceLE, Int.reduceToNat, Int.reduceNeg, reduceIte, reduceCtorEq, SPx, h0, c1', c2', c3', hb0]
           refine hK _ _ ?_
           clear hK K)
      )
      refine ⟨hd, ?_, ?_⟩
      all_goals (try simp (maxSteps := 2000000) (disch := omega) only [SO, ofValue, ofCell, Nat.reduceBEq, Nat.reduceEqDiff, ↓reduceIte, and_self, and_true, true_and, Mem.newRef_eq, Mem.gen_nil, Mem.gen_new, Mem.gen_set, Mem.row_new, Mem.row_setW, Mem.new_out, Mem.set_out, List.length_nil, List.length_cons, Nat.zero_le, Nat.le_refl, Nat.reduceLeDiff, Nat.reduceAdd, and_self, and_true, true_and, Nat.zero_add, h0])
  clear hd h0 ho hb4 hb0 c1' c2'
  rintro st ⟨hd, h0, h23⟩
  repeat (first
    | with_reducible first | refine W_seq ?_ | refine W_skip ?_ | refine W_label ?_ | refine W_ret ?_ | refine W_exit ?_ | refine W_block ?_ | refine thenI ?_ | refine thenRet ?_ | refine thenExit ?_ | refine blockRet ?_ | refine blockI ?_ | refine blockExit ?_ | refine blockExitNe rfl ?_
    | (with_reducible refine W_region_k ?_
       intro K hK
       simp (maxSteps := 2000000) (disch := omega) only [SA, ofValue, ofCell, bin, intBin, un, idx, Go.Ev.builtin, calleeOf, V.isNilS, V.depthOk, depth1, V.ok1, V.isAgg, V.cells, isConst, Nat.reduceBEq, Nat.reduceEqDiff, ↓reduceIte, Nat.reduceLeDiff, Nat.reduceAdd, Nat.reduceMul, Nat.reduceSub, Nat.reduceLT, Int.reduceAdd, Int.reduceSub, Int.reduceMul, Int.reduceLT, Int.reduceLE, Int.reduceToNat, Int.reduceNeg, reduceIte, reduceCtorEq, SPx, h23]
       refine hK _ _ ?_
       clear hK K)
  )
  with_reducible refine W_cond2 (by simp only [SO, ofValue, ofCell, Nat.reduceBEq, Nat.reduceEqDiff, ↓reduceIte, h23]; rfl) (fun h => ?_) (fun h => ?_)
  · simp at h
  repeat (first
    | with_reducible first | refine W_seq ?_ | refine W_skip ?_ | refine W_label ?_ | refine W_ret ?_ | refine W_exit ?_ | refine W_block ?_ | refine thenI ?_ | refine thenRet ?_ | refine thenExit ?_ | refine blockRet ?_ | refine blockI ?_ | refine blockExit ?_ | refine blockExitNe rfl ?_
    | (with_reducible refine W_region_k ?_
       intro K hK
       simp (maxSteps := 2000000) (disch := omega) only [SA, ofValue, ofCell, bin, intBin, un, idx, Go.Ev.builtin, calleeOf, V.isNilS, V.depthOk, depth1, V.ok1, V.isAgg, V.cells, isConst, Nat.reduceBEq, Nat.reduceEqDiff, ↓reduceIte, Nat.reduceLeDiff, Nat.reduceAdd, Nat.reduceMul, Nat.reduceSub, Nat.reduceLT, Int.reduceAdd, Int.reduceSub, Int.reduceMul, Int.reduceLT, Int.reduceLE, Int.reduceToNat, Int.reduceNeg, reduceIte, reduceCtorEq, SPx, h0]
       refine hK _ _ ?_
       clear hK K)
  )
  refine W_loopg (fun (k : Nat) st => st.dfs = [] ∧ st.t.get 0 = .str s ∧ st.t.get 25 = vn s.length ∧ st.t.get 26 = vn k ∧ st.t.get 4 = vn (decV (s.take k)) ∧ k ≤ s.length ∧ decV (s.take k) < 100 ∧ ∀ b ∈ s.take k, 48 ≤ b.toNat ∧ b.toNat ≤ 57) (fun k => s.length - k) 0 ?_ ?_
  · refine ⟨hd, ?_, ?_, ?_, ?_, Nat.zero_le _, by simp [decV], by simp⟩
    all_goals (try simp (maxSteps := 2000000) (disch := omega) only [SO, ofValue, ofCell, Nat.reduceBEq, Nat.reduceEqDiff, ↓reduceIte, and_self, and_true, true_and, Mem.newRef_eq, Mem.gen_nil, Mem.gen_new, Mem.gen_set, Mem.row_new, Mem.row_setW, Mem.new_out, Mem.set_out, List.length_nil, List.length_cons, Nat.zero_le, Nat.le_refl, Nat.reduceLeDiff, Nat.reduceAdd, and_self, and_true, true_and, Nat.zero_add, h0])
    all_goals rfl
  clear hd h0 h23 h
  rintro k st ⟨hd, h0, h25, h26, h4, hk, hv, hall⟩
  repeat (first
    | with_reducible first | refine W_seq ?_ | refine W_skip ?_ | refine W_label ?_ | refine W_ret ?_ | refine W_exit ?_ | refine W_block ?_ | refine thenI ?_ | refine thenRet ?_ | refine thenExit ?_ | refine blockRet ?_ | refine blockI ?_ | refine blockExit ?_ | refine blockExitNe rfl ?_
    | (with_reducible refine W_region_k ?_
       intro K hK
       simp (maxSteps := 2000000) (disch := omega) only [SA, ofValue, ofCell, bin, intBin, un, idx, Go.Ev.builtin, calleeOf, V.isNilS, V.depthOk, depth1, V.ok1, V.isAgg, V.cells, isConst, Nat.reduceBEq, Nat.reduceEqDiff, ↓reduceIte, Nat.reduceLeDiff, Nat.reduceAdd, Nat.reduceMul, Nat.reduceSub, Nat.reduceLT, Int.reduceAdd, Int.reduceSub, Int.reduceMul, Int.reduceLT, Int.reduceLE, Int.reduceToNat, Int.reduceNeg, reduceIte, reduceCtorEq, SPx, h25, h26]
       refine hK _ _ ?_
       clear hK K)
  )
  with_reducible refine W_cond2 (by simp only [SO, ofValue, ofCell, Nat.reduceBEq, Nat.reduceEqDiff, ↓reduceIte]; rfl) (fun h => ?_) (fun h => ?_)
  · have hk' : k < s.length := by have := of_decide_eq_true h; omega
    clear h
    obtain ⟨b, hb⟩ : ∃ b, s[k]? = some b := ⟨s[k]'(by omega), by simp⟩
    have hbn := hno k b hb
    have htk : s.take (k + 1) = s.take k ++ [b] := by rw [List.take_add_one, hb]; rfl
    have hdv : decV (s.take (k + 1)) = 10 * decV (s.take k) + (b.toNat - 48) := by rw [htk, decV, List.foldl_append]; rfl
    have hall' : (48 ≤ b.toNat ∧ b.toNat ≤ 57) → ∀ x ∈ s.take (k + 1), 48 ≤ x.toNat ∧ x.toNat ≤ 57 := fun hb' x hx => by
      rw [htk] at hx
      rcases List.mem_append.1 hx with hx | hx
      · exact hall x hx
      · rw [List.mem_singleton.1 hx]; exact hb'
    have hlt' : (48 ≤ b.toNat ∧ b.toNat ≤ 57) → decV (s.take (k + 1)) < 100 := fun hb' => decV_lt _ (by rw [List.length_take]; omega) (hall' hb')
    clear hall hno hyes htk
    generalize hn : b.toNat = n at hbn hdv hall' hlt'
    generalize hv' : decV (s.take (k + 1)) = v' at hdv hlt'
    generalize decV (s.take k) = v at hv h4 hdv
    have hnv : V.int .u8 ((b.toNat : Nat) : Int) = V.int .u8 (n : Int) := by rw [hn]
    clear hn
    by_cases q1 : (n : Int) < 48
    · rw [hbn (by omega)]
      clear hbn hdv hall' hlt'
      repeat (first
        | with_reducible first | refine W_seq ?_ | refine W_skip ?_ | refine W_label ?_ | refine W_ret ?_ | refine W_exit ?_ | refine W_block ?_ | refine thenI ?_ | refine thenRet ?_ | refine thenExit ?_ | refine blockRet ?_ | refine blockI ?_ | refine blockExit ?_ | refine blockExitNe rfl ?_
        | (with_reducible refine W_region_k ?_
           intro K hK
           simp (maxSteps := 2000000) (disch := omega) only [SA, ofValue, ofCell, bin, intBin, un, idx, Go.Ev.builtin, calleeOf, V.isNilS, V.depthOk, depth1, V.ok1, V.isAgg, V.cells, isConst, Nat.reduceBEq, Nat.reduceEqDiff, ↓reduceIte, Nat.reduceLeDiff, Nat.reduceAdd, Nat.reduceMul, Nat.reduceSub, Nat.reduceLT, Int.reduceAdd, Int.reduceSub, Int.reduceMul, Int.reduceLT, Int.reduceLE, Int.reduceToNat, Int.reduceNeg, reduceIte, reduceCtorEq, SPx, h0, h25, h26, hb, hnv, q1]
           refine hK _ _ ?_
           clear hK K)
      )
      with_reducible refine W_cond2 (by simp only [SO, ofValue, ofCell, Nat.reduceBEq, Nat.reduceEqDiff, ↓reduceIte]; rfl) (fun h => ?_) (fun h => ?_)
      · repeat (first
          | with_reducible first | refine W_seq ?_ | refine W_skip ?_ | refine W_label ?_ | refine W_ret ?_ | refine W_exit ?_ | refine W_block ?_ | refine thenI ?_ | refine thenRet ?_ | refine thenExit ?_ | refine blockRet ?_ | refine blockI ?_ | refine blockExit ?_ | refine blockExitNe rfl ?_
          | (with_reducible refine W_region_k ?_
             intro K hK
             simp (maxSteps := 2000000) (disch := omega) only [SA, ofValue, ofCell, bin, intBin, un, idx, Go.Ev.builtin, calleeOf, V.isNilS, V.depthOk, depth1, V.ok1, V.isAgg, V.cells, isConst, Nat.reduceBEq, Nat.reduceEqDiff, ↓reduceIte, Nat.reduceLeDiff, Nat.reduceAdd, Nat.reduceMul, Nat.reduceSub, Nat.reduceLT, Int.reduceAdd, Int.reduceSub, Int.reduceMul, Int.reduceLT, Int.reduceLE, Int.reduceToNat, Int.reduceNeg, reduceIte, reduceCtorEq, SPx]
             refine hK _ _ ?_
             clear hK K)
        )
        refine end_ret hd (by simp (maxSteps := 2000000) (disch := omega) only [Tryd.results92, resVars, resVar, SA, ofValue, ofCell, bin, intBin, un, idx, Go.Ev.builtin, calleeOf, V.isNilS, V.depthOk, depth1, V.ok1, V.isAgg, V.cells, isConst, Nat.reduceBEq, Nat.reduceEqDiff, ↓reduceIte, Nat.reduceLeDiff, Nat.reduceAdd, Nat.reduceMul, Nat.reduceSub, Nat.reduceLT, Int.reduceAdd, Int.reduceSub, Int.reduceMul, Int.reduceLT, Int.reduceLE, Int.reduceToNat, Int.reduceNeg, reduceIte, reduceCtorEq, SPx]; rfl) ?_
        simp (maxSteps := 2000000) (disch := omega) only [SA, ofValue, ofCell, bin, intBin, un, idx, Go.Ev.builtin, calleeOf, V.isNilS, V.depthOk, depth1, V.ok1, V.isAgg, V.cells, isConst, Nat.reduceBEq, Nat.reduceEqDiff, ↓reduceIte, Nat.reduceLeDiff, Nat.reduceAdd, Nat.reduceMul, Nat.reduceSub, Nat.reduceLT, Int.reduceAdd, Int.reduceSub, Int.reduceMul, Int.reduceLT, Int.reduceLE, Int.reduceToNat, Int.reduceNeg, reduceIte, reduceCtorEq, true_and, and_true, Nat.zero_add, Nat.le_refl, if_true, ↓reduceIte, resOf, X_own, mv_int, mv_bool, mv_str, mv_sl, mv_nilS, mv_tup, mv2s_nil, mv2s_cons, mv2_int, mv2_bool, mv2_str, mv2_sl, mv2_nilS, Option.map_some, vi, vn, SPx]
        rfl
      · simp at h
    by_cases q2 : (n : Int) > 57
    · rw [hbn (by omega)]
      clear hbn hdv hall' hlt'
      repeat (first
        | with_reducible first | refine W_seq ?_ | refine W_skip ?_ | refine W_label ?_ | refine W_ret ?_ | refine W_exit ?_ | refine W_block ?_ | refine thenI ?_ | refine thenRet ?_ | refine thenExit ?_ | refine blockRet ?_ | refine blockI ?_ | refine blockExit ?_ | refine blockExitNe rfl ?_
        | (with_reducible refine W_region_k ?_
           intro K hK
           simp (maxSteps := 2000000) (disch := omega) only [SA, ofValue, ofCell, bin, intBin, un, idx, Go.Ev.builtin, calleeOf, V.isNilS, V.depthOk, depth1, V.ok1, V.isAgg, V.cells, isConst, Nat.reduceBEq, Nat.reduceEqDiff, ↓reduceIte, Nat.reduceLeDiff, Nat.reduceAdd, Nat.reduceMul, Nat.reduceSub, Nat.reduceLT, Int.reduceAdd, Int.reduceSub, Int.reduceMul, Int.reduceLT, Int.reduceLE, Int.reduceToNat, Int.reduceNeg, reduceIte, reduceCtorEq, SPx, h0, h25, h26, hb, hnv, q1, q2]
           refine hK _ _ ?_
           clear hK K)
      )
      with_reducible refine W_cond2 (by simp only [SO, ofValue, ofCell, Nat.reduceBEq, Nat.reduceEqDiff, ↓reduceIte]; rfl) (fun h => ?_) (fun h => ?_)
      · repeat (first
          | with_reducible first | refine W_seq ?_ | refine W_skip ?_ | refine W_label ?_ | refine W_ret ?_ | refine W_exit ?_ | refine W_block ?_ | refine thenI ?_ | refine thenRet ?_ | refine thenExit ?_ | refine blockRet ?_ | refine blockI ?_ | refine blockExit ?_ | refine blockExitNe rfl ?_
          | (with_reducible refine W_region_k ?_
             intro K hK
             simp (maxSteps := 2000000) (disch := omega) only [SA, ofValue, ofCell, bin, intBin, un, idx, Go.Ev.builtin, calleeOf, V.isNilS, V.depthOk, depth1, V.ok1, V.isAgg, V.cells, isConst, Nat.reduceBEq, Nat.reduceEqDiff, ↓reduceIte, Nat.reduceLeDiff, Nat.reduceAdd, Nat.reduceMul, Nat.reduceSub, Nat.reduceLT, Int.reduceAdd, Int.reduceSub, Int.reduceMul, Int.reduceLT, Int.reduceLE, Int.reduceToNat, Int.reduceNeg, reduceIte, reduceCtorEq, SPx]
             refine hK _ _ ?_
             clear hK K)
        )
        refine end_ret hd (by simp (maxSteps := 2000000) (disch := omega) only [Tryd.results92, resVars, resVar, SA, ofValue, ofCell, bin, intBin, un, idx, Go.Ev.builtin, calleeOf, V.isNilS, V.depthOk, depth1, V.ok1, V.isAgg, V.cells, isConst, Nat.reduceBEq, Nat.reduceEqDiff, ↓reduceIte, Nat.reduceLeDiff, Nat.reduceAdd, Nat.reduceMul, Nat.reduceSub, Nat.reduceLT, Int.reduceAdd, Int.reduceSub, Int.reduceMul, Int.reduceLT, Int.reduceLE, Int.reduceToNat, Int.reduceNeg, reduceIte, reduceCtorEq, SPx]; rfl) ?_
        simp (maxSteps := 2000000) (disch := omega) only [SA, ofValue, ofCell, bin, intBin, un, idx, Go.Ev.builtin, calleeOf, V.isNilS, V.depthOk, depth1, V.ok1, V.isAgg, V.cells, isConst, Nat.reduceBEq, Nat.reduceEqDiff, ↓reduceIte, Nat.reduceLeDiff, Nat.reduceAdd, Nat.reduceMul, Nat.reduceSub, Nat.reduceLT, Int.reduceAdd, Int.reduceSub, Int.reduceMul, Int.reduceLT, Int.reduceLE, Int.reduceToNat, Int.reduceNeg, reduceIte, reduceCtorEq, true_and, and_true, Nat.zero_add, Nat.le_refl, if_true, ↓reduceIte, resOf, X_own, mv_int, mv_bool, mv_str, mv_sl, mv_nilS, mv_tup, mv2s_nil, mv2s_cons, mv2_int, mv2_bool, mv2_str, mv2_sl, mv2_nilS, Option.map_some, vi, vn, SPx]
        rfl
      · simp at h
    have hall' := hall' (by omega)
    have hlt' := hlt' (by omega)
    have h48 : 48 ≤ n := by omega
    have hsub : V.int .u8 (wr .u8 ((n : Int) - 48)) = V.int .u8 ((n : Int) - 48) := by
      congr 1
      have e : (n : Int) - 48 = ((n - 48 : Nat) : Int) := by omega
      rw [e]; exact wr_u8 (by omega)
    have hmul : V.int .i64 (wr .i64 (10 * (v : Int))) = V.int .i64 (10 * (v : Int)) := by rw [wr_i64 (by omega) (by omega)]
    have hadd : V.int .i64 (wr .i64 (10 * (v : Int) + ((n : Int) - 48))) = V.int .i64 (v' : Int) := by
      rw [wr_i64 (by omega) (by omega)]; congr 1; omega
    have hcv : V.int .i64 (wr .i64 ((n : Int) - 48)) = V.int .i64 ((n : Int) - 48) := by rw [wr_i64 (by omega) (by omega)]
    have hkk : V.int .i64 (wr .i64 ((k : Int) + 1)) = V.int .i64 ((k + 1 : Nat) : Int) := by rw [wr_i64 (by omega) (by omega)]; rfl
    have hall' : k < s.length ∧ ∀ x ∈ List.take (k + 1) s, 48 ≤ x.toNat ∧ x.toNat ≤ 57 := ⟨hk', hall'⟩
    clear hbn hdv hk hl2
    repeat (first
      | with_reducible first | refine W_seq ?_ | refine W_skip ?_ | refine W_label ?_ | refine W_ret ?_ | refine W_exit ?_ | refine W_block ?_ | refine thenI ?_ | refine thenRet ?_ | refine thenExit ?_ | refine blockRet ?_ | refine blockI ?_ | refine blockExit ?_ | refine blockExitNe rfl ?_
      | (with_reducible refine W_region_k ?_
         intro K hK
         simp (maxSteps := 2000000) (disch := omega) only [SA, ofValue, ofCell, bin, intBin, un, idx, Go.Ev.builtin, calleeOf, V.isNilS, V.depthOk, depth1, V.ok1, V.isAgg, V.cells, isConst, Nat.reduceBEq, Nat.reduceEqDiff, ↓reduceIte, Nat.reduceLeDiff, Nat.reduceAdd, Nat.reduceMul, Nat.reduceSub, Nat.reduceLT, Int.reduceAdd, Int.reduceSub, Int.reduceMul, Int.reduceLT, Int.reduceLE, Int.reduceToNat, Int.reduceNeg, reduceIte, reduceCtorEq, SPx, h0, h4, h25, h26, hb, hnv, q1, q2]
         refine hK _ _ ?_
         clear hK K)
    )
    with_reducible refine W_cond2 (by simp only [SO, ofValue, ofCell, Nat.reduceBEq, Nat.reduceEqDiff, ↓reduceIte]; rfl) (fun h => ?_) (fun h => ?_)
    · simp at h
    repeat (first
      | with_reducible first | refine W_seq ?_ | refine W_skip ?_ | refine W_label ?_ | refine W_ret ?_ | refine W_exit ?_ | refine W_block ?_ | refine thenI ?_ | refine thenRet ?_ | refine thenExit ?_ | refine blockRet ?_ | refine blockI ?_ | refine blockExit ?_ | refine blockExitNe rfl ?_
      | (with_reducible refine W_region_k ?_
         intro K hK
         simp (maxSteps := 2000000) (disch := omega) only [SA, ofValue, ofCell, bin, intBin, un, idx, Go.Ev.builtin, calleeOf, V.isNilS, V.depthOk, depth1, V.ok1, V.isAgg, V.cells, isConst, Nat.reduceBEq, Nat.reduceEqDiff, ↓reduceIte, Nat.reduceLeDiff, Nat.reduceAdd, Nat.reduceMul, Nat.reduceSub, Nat.reduceLT, Int.reduceAdd, Int.reduceSub, Int.reduceMul, Int.reduceLT, Int.reduceLE, Int.reduceToNat, Int.reduceNeg, reduceIte, reduceCtorEq, SPx, h0, h4, h25, h26, hb, hnv, hsub, hmul, hadd, hcv, hkk]
         refine hK _ _ ?_
         clear hK K)
    )
    refine ⟨k + 1, ⟨hd, ?_, ?_, ?_, ?_, hk', by rw [hv']; exact hlt', hall'.2⟩, by omega⟩
    all_goals (try simp (maxSteps := 2000000) (disch := omega) only [SO, ofValue, ofCell, Nat.reduceBEq, Nat.reduceEqDiff, ↓reduceIte, and_self, and_true, true_and, Mem.newRef_eq, Mem.gen_nil, Mem.gen_new, Mem.gen_set, Mem.row_new, Mem.row_setW, Mem.new_out, Mem.set_out, List.length_nil, List.length_cons, Nat.zero_le, Nat.le_refl, Nat.reduceLeDiff, Nat.reduceAdd, and_self, and_true, true_and, Nat.zero_add, h0, h25, hv'])
  · have hk' : k = s.length := by have := of_decide_eq_false h; omega
    rw [hk', List.take_length] at h4 hall
    rw [hyes (List.all_eq_true.2 fun b hb => by have := hall b hb; simp only [Bool.and_eq_true, decide_eq_true_eq]; exact this)]
    clear hall hyes hno h hv
    repeat (first
      | with_reducible first | refine W_seq ?_ | refine W_skip ?_ | refine W_label ?_ | refine W_ret ?_ | refine W_exit ?_ | refine W_block ?_ | refine thenI ?_ | refine thenRet ?_ | refine thenExit ?_ | refine blockRet ?_ | refine blockI ?_ | refine blockExit ?_ | refine blockExitNe rfl ?_
      | (with_reducible refine W_region_k ?_
         intro K hK
         simp (maxSteps := 2000000) (disch := omega) only [SA, ofValue, ofCell, bin, intBin, un, idx, Go.Ev.builtin, calleeOf, V.isNilS, V.depthOk, depth1, V.ok1, V.isAgg, V.cells, isConst, Nat.reduceBEq, Nat.reduceEqDiff, ↓reduceIte, Nat.reduceLeDiff, Nat.reduceAdd, Nat.reduceMul, Nat.reduceSub, Nat.reduceLT, Int.reduceAdd, Int.reduceSub, Int.reduceMul, Int.reduceLT, Int.reduceLE, Int.reduceToNat, Int.reduceNeg, reduceIte, reduceCtorEq, SPx, h4]
         refine hK _ _ ?_
         clear hK K)
    )
    refine end_ret hd (by simp (maxSteps := 2000000) (disch := omega) only [Tryd.results92, resVars, resVar, SA, ofValue, ofCell, bin, intBin, un, idx, Go.Ev.builtin, calleeOf, V.isNilS, V.depthOk, depth1, V.ok1, V.isAgg, V.cells, isConst, Nat.reduceBEq, Nat.reduceEqDiff, ↓reduceIte, Nat.reduceLeDiff, Nat.reduceAdd, Nat.reduceMul, Nat.reduceSub, Nat.reduceLT, Int.reduceAdd, Int.reduceSub, Int.reduceMul, Int.reduceLT, Int.reduceLE, Int.reduceToNat, Int.reduceNeg, reduceIte, reduceCtorEq, SPx]; rfl) ?_
    simp (maxSteps := 2000000) (disch := omega) only [SA, ofValue, ofCell, bin, intBin, un, idx, Go.Ev.builtin, calleeOf, V.isNilS, V.depthOk, depth1, V.ok1, V.isAgg, V.cells, isConst, Nat.reduceBEq, Nat.reduceEqDiff, ↓reduceIte, Nat.reduceLeDiff, Nat.reduceAdd, Nat.reduceMul, Nat.reduceSub, Nat.reduceLT, Int.reduceAdd, Int.reduceSub, Int.reduceMul, Int.reduceLT, Int.reduceLE, Int.reduceToNat, Int.reduceNeg, reduceIte, reduceCtorEq, true_and, and_true, Nat.zero_add, Nat.le_refl, if_true, ↓reduceIte, resOf, X_own, mv_int, mv_bool, mv_str, mv_sl, mv_nilS, mv_tup, mv2s_nil, mv2s_cons, mv2_int, mv2_bool, mv2_str, mv2_sl, mv2_nilS, Option.map_some, vi, vn, SPx]
end Go.Proofs.YtpocekfifokndaaDoor
namespace Go.Proofs.YtpocekfifokndaaDoor
open Go Go.Ev Go.Pl
set_option maxRecDepth 100000
set_option maxHeartbeats 4000000
def strs (l : List (List UInt8)) : List V := l.map V.str
theorem strs_length (l : List (List UInt8)) : (strs l).length = l.length := by simp [strs]
theorem strs_get? (l : List (List UInt8)) (i : Nat) : (strs l)[i]? = l[i]?.map V.str := by simp [strs]
theorem splitB_len (c : UInt8) : ∀ (s : List UInt8), ∀ p ∈ splitB c s, p.length ≤ s.length
  | [], p, hp => by simp [splitB] at hp; subst hp; exact Nat.le_refl _
  | b :: bs, p, hp => by
    unfold splitB at hp
    split at hp
    · rcases List.mem_cons.1 hp with rfl | hp
      · exact Nat.zero_le _
      · exact Nat.le_succ_of_le (splitB_len c bs p hp)
    · split at hp
      · simp at hp; subst hp; simp
      · rename_i l ls e
        rcases List.mem_cons.1 hp with rfl | hp
        · exact Nat.succ_le_succ (splitB_len c bs l (by rw [e]; simp))
        · exact Nat.le_succ_of_le (splitB_len c bs p (by rw [e]; simp [hp]))
theorem splitB_pos (c : UInt8) : ∀ (s : List UInt8), 0 < (splitB c s).length
  | [] => by simp [splitB]
  | b :: bs => by
    unfold splitB
    split
    · simp
    · split <;> simp
theorem splitB_count (c : UInt8) : ∀ (s : List UInt8), (splitB c s).length ≤ s.length + 1
  | [] => by simp [splitB]
  | b :: bs => by
    have ih := splitB_count c bs
    unfold splitB
    split
    · simp; omega
    · split
      · simp
      · rename_i l ls e; rw [e] at ih; simp at ih ⊢; omega
def parseL (n : Nat) : Nat → Nat → List Nat → List (List UInt8) → List Nat × Nat × Int
  | _, _, acc, [] => (acc, 0, 0)
  | i, at', acc, p :: ps =>
    if (partS p).2 = false then ([], at', 5) else if 60 ≤ (partS p).1 then ([], at', 30) else if i = 16 then ([], at', 3)
    else if (partS p).1 = 0 ∧ (i = 0 ∨ i = n - 1) then ([], at', 5) else parseL n (i + 1) (at' + (p.length + 1)) (acc ++ [(partS p).1]) ps
def parseS (s : List UInt8) : List Nat × Nat × Int := if s = [48] then ([], 0, 0) else parseL (splitB 58 s).length 0 0 [] (splitB 58 s)
theorem partS_lt (s : List UInt8) : (partS s).1 < 100 := by
  unfold partS
  split
  · decide
  · rename_i h
    split
    · rename_i h2
      refine decV_lt s (by omega) fun b hb => ?_
      have := List.all_eq_true.1 h2 b hb
      simp only [Bool.and_eq_true, decide_eq_true_eq] at this
      exact this
    · decide
theorem ext91 {s : List UInt8} (hs : s.length < 4294967281) {m : Mem} {dst : Nat} {K KP : V → Mem → Prop} : CallQ X 91 [.str s, .str [58]] m dst K KP ↔ K (.sl (strs (splitB 58 s))) m :=
  ext_iff (by show extF 91 [V.str s, V.str [58]] = some (V.sl (strs (splitB 58 s))); unfold extF; rw [if_pos rfl]; simp only; rw [if_pos hs]; rfl) rfl (fun h => by rw [X_P, sr91] at h; exact absurd h (by decide)) rfl
theorem P34 (s : List UInt8) (hlen : s.length < 4294967281) : Ans X 34 [.str s] (.ret (.tup [.sl (nats (parseS s).1), vn (parseS s).2.1, vi (parseS s).2.2])) := by
  refine call_of_X (fn := Tryd.f34) 1 Tryd.func34 rfl (by decide +kernel) rfl ?_ ?_ ?_ ?_
  · rfl
  · intro h; exact absurd h (by rw [sr34]; decide)
  · intro v hv; injection hv with hv; subst hv; rfl
  intro st hs hd ho
  have hm : st.m = ⟨.nil, []⟩ := by subst hs; rfl
  have h0 : st.t.get 0 = .str s := by subst hs; rfl
  clear hs
  repeat (first
    | with_reducible first | refine W_seq ?_ | refine W_skip ?_ | refine W_label ?_ | refine W_ret ?_ | refine W_exit ?_ | refine W_block ?_ | refine thenI ?_ | refine thenRet ?_ | refine thenExit ?_ | refine blockRet ?_ | refine blockI ?_ | refine blockExit ?_ | refine blockExitNe rfl ?_
    | (with_reducible refine W_region_k ?_
       intro K hK
       simp (maxSteps := 2000000) (disch := omega) only [SA, ofValue, ofCell, bin, intBin, un, idx, Go.Ev.builtin, calleeOf, V.isNilS, V.depthOk, depth1, V.ok1, V.isAgg, V.cells, isConst, Nat.reduceBEq, Nat.reduceEqDiff, ↓reduceIte, Nat.reduceLeDiff, Nat.reduceAdd, Nat.reduceMul, Nat.reduceSub, Nat.reduceLT, Int.reduceAdd, Int.reduceSub, Int.reduceMul, Int.reduceLT, Int.reduceLE, Int.reduceToNat, Int.reduceNeg, reduceIte, reduceCtorEq, SPx, strBin, h0, hm]
       refine hK _ _ ?_
       clear hK K)
  )
  with_reducible refine W_cond2 (by simp only [SO, ofValue, ofCell, Nat.reduceBEq, Nat.reduceEqDiff, ↓reduceIte]; rfl) (fun h => ?_) (fun h => ?_)
  · repeat (first
      | with_reducible first | refine W_seq ?_ | refine W_skip ?_ | refine W_label ?_ | refine W_ret ?_ | refine W_exit ?_ | refine W_block ?_ | refine thenI ?_ | refine thenRet ?_ | refine thenExit ?_ | refine blockRet ?_ | refine blockI ?_ | refine blockExit ?_ | refine blockExitNe rfl ?_
      | (with_reducible refine W_region_k ?_
         intro K hK
         simp (maxSteps := 2000000) (disch := omega) only [SA, ofValue, ofCell, bin, intBin, un, idx, Go.Ev.builtin, calleeOf, V.isNilS, V.depthOk, depth1, V.ok1, V.isAgg, V.cells, isConst, Nat.reduceBEq, Nat.reduceEqDiff, ↓reduceIte, Nat.reduceLeDiff, Nat.reduceAdd, Nat.reduceMul, Nat.reduceSub, Nat.reduceLT, Int.reduceAdd, Int.reduceSub, Int.reduceMul, Int.reduceLT, Int.reduceLE, Int.reduceToNat, Int.reduceNeg, reduceIte, reduceCtorEq, SPx]
         refine hK _ _ ?_
         clear hK K)
    )
    have h := eq_of_beq h
    refine end_ret hd (by simp (maxSteps := 2000000) (disch := omega) only [Tryd.results34, resVars, resVar, SA, ofValue, ofCell, bin, intBin, un, idx, Go.Ev.builtin, calleeOf, V.isNilS, V.depthOk, depth1, V.ok1, V.isAgg, V.cells, isConst, Nat.reduceBEq, Nat.reduceEqDiff, ↓reduceIte, Nat.reduceLeDiff, Nat.reduceAdd, Nat.reduceMul, Nat.reduceSub, Nat.reduceLT, Int.reduceAdd, Int.reduceSub, Int.reduceMul, Int.reduceLT, Int.reduceLE, Int.reduceToNat, Int.reduceNeg, reduceIte, reduceCtorEq, SPx, SSx, appendTo, elemsOf, SAx]; rfl) ?_
    simp (maxSteps := 2000000) (disch := omega) only [SA, ofValue, ofCell, bin, intBin, un, idx, Go.Ev.builtin, calleeOf, V.isNilS, V.depthOk, depth1, V.ok1, V.isAgg, V.cells, isConst, Nat.reduceBEq, Nat.reduceEqDiff, ↓reduceIte, Nat.reduceLeDiff, Nat.reduceAdd, Nat.reduceMul, Nat.reduceSub, Nat.reduceLT, Int.reduceAdd, Int.reduceSub, Int.reduceMul, Int.reduceLT, Int.reduceLE, Int.reduceToNat, Int.reduceNeg, reduceIte, reduceCtorEq, true_and, and_true, Nat.zero_add, Nat.le_refl, if_true, ↓reduceIte, resOf, X_own, mv_int, mv_bool, mv_str, mv_sl, mv_nilS, mv_tup, mv2s_nil, mv2s_cons, mv2_int, mv2_bool, mv2_str, mv2_sl, mv2_nilS, Option.map_some, vi, vn, SPx, SSx, appendTo, elemsOf, SAx]
    rw [parseS, if_pos h]
    rfl
  have hne : ¬ s = [48] := fun e => by rw [e] at h; simp at h
  rw [parseS, if_neg hne]
  clear h hne
  have hpl := splitB_len 58 s
  have hcnt := splitB_count 58 s
  repeat (first
    | with_reducible first | refine W_seq ?_ | refine W_skip ?_ | refine W_label ?_ | refine W_ret ?_ | refine W_exit ?_ | refine W_block ?_ | refine thenI ?_ | refine thenRet ?_ | refine thenExit ?_ | refine blockRet ?_ | refine blockI ?_ | refine blockExit ?_ | refine blockExitNe rfl ?_
    | (with_reducible refine W_region_k ?_
       intro K hK
       simp (maxSteps := 2000000) (disch := omega) only [SA, ofValue, ofCell, bin, intBin, un, idx, Go.Ev.builtin, calleeOf, V.isNilS, V.depthOk, depth1, V.ok1, V.isAgg, V.cells, isConst, Nat.reduceBEq, Nat.reduceEqDiff, ↓reduceIte, Nat.reduceLeDiff, Nat.reduceAdd, Nat.reduceMul, Nat.reduceSub, Nat.reduceLT, Int.reduceAdd, Int.reduceSub, Int.reduceMul, Int.reduceLT, Int.reduceLE, Int.reduceToNat, Int.reduceNeg, reduceIte, reduceCtorEq, SPx, SSx, appendTo, elemsOf, strBin, h0, hm, co91, sr91, ext91 hlen, strs_length]
       refine hK _ _ ?_
       clear hK K)
  )
  generalize hL : splitB 58 s = L at hpl hcnt
  have hpl : ∀ p ∈ L, p.length < 4294967281 := fun p hp => by have := hpl p hp; omega
  have hcnt : L.length < 4294967300 := by omega
  clear hL h0 hlen
  refine W_loopg (fun (x : Nat × Nat × List Nat) st => st.dfs = [] ∧ st.m.out.length = 0 ∧ st.t.get 5 = .sl (strs L) ∧ st.t.get 14 = .sl (strs L) ∧ st.t.get 15 = vn L.length ∧ st.t.get 16 = vn x.1 ∧ st.t.get 3 = vn x.2.1 ∧
    Held st.m 2 1 (st.t.get 2) x.2.2 ∧ x.1 ≤ L.length ∧ x.1 ≤ 16 ∧ x.2.1 ≤ x.1 * 4294967296 ∧ x.2.2.length = x.1 ∧ parseL L.length 0 0 [] L = parseL L.length x.1 x.2.1 x.2.2 (L.drop x.1)) (fun x => L.length - x.1) (0, 0, []) ?_ ?_
  · refine ⟨hd, ?_, ?_, ?_, ?_, ?_, ?_, ⟨1, 0, ?_, ?_, .inr ⟨rfl, rfl⟩⟩, Nat.zero_le _, Nat.zero_le _, Nat.zero_le _, rfl, rfl⟩
    all_goals (try simp (maxSteps := 2000000) (disch := omega) only [SO, ofValue, ofCell, Nat.reduceBEq, Nat.reduceEqDiff, ↓reduceIte, and_self, and_true, true_and, Mem.newRef_eq, Mem.gen_nil, Mem.gen_new, Mem.gen_set, Mem.row_new, Mem.row_setW, Mem.new_out, Mem.set_out, List.length_nil, List.length_cons, Nat.zero_le, Nat.le_refl, Nat.reduceLeDiff, Nat.reduceAdd, and_self, and_true, true_and, Nat.zero_add, hm])
    all_goals rfl
  clear hd ho hm
  rintro ⟨i, at', acc⟩ st ⟨hd, ho, h5, h14, h15, h16, h3, ⟨g, ty, h2, r2, hty⟩, hi, hi16, hat, hacc, hpe⟩
  dsimp only at h16 h3 h2 r2 hty hi hi16 hat hacc hpe
  repeat (first
    | with_reducible first | refine W_seq ?_ | refine W_skip ?_ | refine W_label ?_ | refine W_ret ?_ | refine W_exit ?_ | refine W_block ?_ | refine thenI ?_ | refine thenRet ?_ | refine thenExit ?_ | refine blockRet ?_ | refine blockI ?_ | refine blockExit ?_ | refine blockExitNe rfl ?_
    | (with_reducible refine W_region_k ?_
       intro K hK
       simp (maxSteps := 2000000) (disch := omega) only [SA, ofValue, ofCell, bin, intBin, un, idx, Go.Ev.builtin, calleeOf, V.isNilS, V.depthOk, depth1, V.ok1, V.isAgg, V.cells, isConst, Nat.reduceBEq, Nat.reduceEqDiff, ↓reduceIte, Nat.reduceLeDiff, Nat.reduceAdd, Nat.reduceMul, Nat.reduceSub, Nat.reduceLT, Int.reduceAdd, Int.reduceSub, Int.reduceMul, Int.reduceLT, Int.reduceLE, Int.reduceToNat, Int.reduceNeg, reduceIte, reduceCtorEq, SPx, h15, h16]
       refine hK _ _ ?_
       clear hK K)
  )
  with_reducible refine W_cond2 (by simp only [SO, ofValue, ofCell, Nat.reduceBEq, Nat.reduceEqDiff, ↓reduceIte]; rfl) (fun h => ?_) (fun h => ?_)
  · have h := of_decide_eq_true h
    have hi' : i < L.length := by omega
    obtain ⟨p, hp⟩ : ∃ p, L[i]? = some p := ⟨L[i], by simp⟩
    have hpm := hpl p (List.mem_of_getElem? hp)
    have hdrop : L.drop i = p :: L.drop (i + 1) := by
      rw [List.drop_eq_getElem_cons hi']
      congr 1
      rw [List.getElem?_eq_getElem hi'] at hp
      exact Option.some.inj hp
    rw [hdrop, parseL] at hpe
    have c := P92 p (by omega)
    have hlt := partS_lt p
    generalize hq : partS p = q at c hlt hpe
    obtain ⟨d, ok⟩ := q
    dsimp only at c hlt hpe
    clear hq hdrop
    repeat (first
      | with_reducible first | refine W_seq ?_ | refine W_skip ?_ | refine W_label ?_ | refine W_ret ?_ | refine W_exit ?_ | refine W_block ?_ | refine thenI ?_ | refine thenRet ?_ | refine thenExit ?_ | refine blockRet ?_ | refine blockI ?_ | refine blockExit ?_ | refine blockExitNe rfl ?_
      | (with_reducible refine W_region_k ?_
         intro K hK
         simp (maxSteps := 2000000) (disch := omega) only [SA, ofValue, ofCell, bin, intBin, un, idx, Go.Ev.builtin, calleeOf, V.isNilS, V.depthOk, depth1, V.ok1, V.isAgg, V.cells, isConst, Nat.reduceBEq, Nat.reduceEqDiff, ↓reduceIte, Nat.reduceLeDiff, Nat.reduceAdd, Nat.reduceMul, Nat.reduceSub, Nat.reduceLT, Int.reduceAdd, Int.reduceSub, Int.reduceMul, Int.reduceLT, Int.reduceLE, Int.reduceToNat, Int.reduceNeg, reduceIte, reduceCtorEq, SPx, SSx, appendTo, elemsOf, strs_get?, hp, h14, h16, co92, sr92, c.iff, un]
         refine hK _ _ ?_
         clear hK K)
    )
    rw [hpe]
    with_reducible refine W_cond2 (by simp only [SO, ofValue, ofCell, Nat.reduceBEq, Nat.reduceEqDiff, ↓reduceIte]; rfl) (fun h => ?_) (fun h => ?_)
    · have h : ok = false := by simpa using h
      clear hpe
      repeat (first
        | with_reducible first | refine W_seq ?_ | refine W_skip ?_ | refine W_label ?_ | refine W_ret ?_ | refine W_exit ?_ | refine W_block ?_ | refine thenI ?_ | refine thenRet ?_ | refine thenExit ?_ | refine blockRet ?_ | refine blockI ?_ | refine blockExit ?_ | refine blockExitNe rfl ?_
        | (with_reducible refine W_region_k ?_
           intro K hK
           simp (maxSteps := 2000000) (disch := omega) only [SA, ofValue, ofCell, bin, intBin, un, idx, Go.Ev.builtin, calleeOf, V.isNilS, V.depthOk, depth1, V.ok1, V.isAgg, V.cells, isConst, Nat.reduceBEq, Nat.reduceEqDiff, ↓reduceIte, Nat.reduceLeDiff, Nat.reduceAdd, Nat.reduceMul, Nat.reduceSub, Nat.reduceLT, Int.reduceAdd, Int.reduceSub, Int.reduceMul, Int.reduceLT, Int.reduceLE, Int.reduceToNat, Int.reduceNeg, reduceIte, reduceCtorEq, SPx, h3]
           refine hK _ _ ?_
           clear hK K)
      )
      refine end_ret hd (by simp (maxSteps := 2000000) (disch := omega) only [Tryd.results34, resVars, resVar, SA, ofValue, ofCell, bin, intBin, un, idx, Go.Ev.builtin, calleeOf, V.isNilS, V.depthOk, depth1, V.ok1, V.isAgg, V.cells, isConst, Nat.reduceBEq, Nat.reduceEqDiff, ↓reduceIte, Nat.reduceLeDiff, Nat.reduceAdd, Nat.reduceMul, Nat.reduceSub, Nat.reduceLT, Int.reduceAdd, Int.reduceSub, Int.reduceMul, Int.reduceLT, Int.reduceLE, Int.reduceToNat, Int.reduceNeg, reduceIte, reduceCtorEq, SPx, SSx, appendTo, elemsOf, SAx, ho]; rfl) ?_
      simp (maxSteps := 2000000) (disch := omega) only [SA, ofValue, ofCell, bin, intBin, un, idx, Go.Ev.builtin, calleeOf, V.isNilS, V.depthOk, depth1, V.ok1, V.isAgg, V.cells, isConst, Nat.reduceBEq, Nat.reduceEqDiff, ↓reduceIte, Nat.reduceLeDiff, Nat.reduceAdd, Nat.reduceMul, Nat.reduceSub, Nat.reduceLT, Int.reduceAdd, Int.reduceSub, Int.reduceMul, Int.reduceLT, Int.reduceLE, Int.reduceToNat, Int.reduceNeg, reduceIte, reduceCtorEq, true_and, and_true, Nat.zero_add, Nat.le_refl, if_true, ↓reduceIte, resOf, X_own, mv_int, mv_bool, mv_str, mv_sl, mv_nilS, mv_tup, mv2s_nil, mv2s_cons, mv2_int, mv2_bool, mv2_str, mv2_sl, mv2_nilS, Option.map_some, vi, vn, SPx, SSx, appendTo, elemsOf, SAx, ho]
      rfl
    have hok : ¬ ok = false := by simpa using h
    rw [if_neg hok] at hpe ⊢
    clear h
    repeat (first
      | with_reducible first | refine W_seq ?_ | refine W_skip ?_ | refine W_label ?_ | refine W_ret ?_ | refine W_exit ?_ | refine W_block ?_ | refine thenI ?_ | refine thenRet ?_ | refine thenExit ?_ | refine blockRet ?_ | refine blockI ?_ | refine blockExit ?_ | refine blockExitNe rfl ?_
      | (with_reducible refine W_region_k ?_
         intro K hK
         simp (maxSteps := 2000000) (disch := omega) only [SA, ofValue, ofCell, bin, intBin, un, idx, Go.Ev.builtin, calleeOf, V.isNilS, V.depthOk, depth1, V.ok1, V.isAgg, V.cells, isConst, Nat.reduceBEq, Nat.reduceEqDiff, ↓reduceIte, Nat.reduceLeDiff, Nat.reduceAdd, Nat.reduceMul, Nat.reduceSub, Nat.reduceLT, Int.reduceAdd, Int.reduceSub, Int.reduceMul, Int.reduceLT, Int.reduceLE, Int.reduceToNat, Int.reduceNeg, reduceIte, reduceCtorEq, SPx]
         refine hK _ _ ?_
         clear hK K)
    )
    with_reducible refine W_cond2 (by simp only [SO, ofValue, ofCell, Nat.reduceBEq, Nat.reduceEqDiff, ↓reduceIte]; rfl) (fun h => ?_) (fun h => ?_)
    · have h := of_decide_eq_true h
      clear hpe
      repeat (first
        | with_reducible first | refine W_seq ?_ | refine W_skip ?_ | refine W_label ?_ | refine W_ret ?_ | refine W_exit ?_ | refine W_block ?_ | refine thenI ?_ | refine thenRet ?_ | refine thenExit ?_ | refine blockRet ?_ | refine blockI ?_ | refine blockExit ?_ | refine blockExitNe rfl ?_
        | (with_reducible refine W_region_k ?_
           intro K hK
           simp (maxSteps := 2000000) (disch := omega) only [SA, ofValue, ofCell, bin, intBin, un, idx, Go.Ev.builtin, calleeOf, V.isNilS, V.depthOk, depth1, V.ok1, V.isAgg, V.cells, isConst, Nat.reduceBEq, Nat.reduceEqDiff, ↓reduceIte, Nat.reduceLeDiff, Nat.reduceAdd, Nat.reduceMul, Nat.reduceSub, Nat.reduceLT, Int.reduceAdd, Int.reduceSub, Int.reduceMul, Int.reduceLT, Int.reduceLE, Int.reduceToNat, Int.reduceNeg, reduceIte, reduceCtorEq, SPx, h3]
           refine hK _ _ ?_
           clear hK K)
      )
      refine end_ret hd (by simp (maxSteps := 2000000) (disch := omega) only [Tryd.results34, resVars, resVar, SA, ofValue, ofCell, bin, intBin, un, idx, Go.Ev.builtin, calleeOf, V.isNilS, V.depthOk, depth1, V.ok1, V.isAgg, V.cells, isConst, Nat.reduceBEq, Nat.reduceEqDiff, ↓reduceIte, Nat.reduceLeDiff, Nat.reduceAdd, Nat.reduceMul, Nat.reduceSub, Nat.reduceLT, Int.reduceAdd, Int.reduceSub, Int.reduceMul, Int.reduceLT, Int.reduceLE, Int.reduceToNat, Int.reduceNeg, reduceIte, reduceCtorEq, SPx, SSx, appendTo, elemsOf, SAx, ho]; rfl) ?_
      simp (maxSteps := 2000000) (disch := omega) only [SA, ofValue, ofCell, bin, intBin, un, idx, Go.Ev.builtin, calleeOf, V.isNilS, V.depthOk, depth1, V.ok1, V.isAgg, V.cells, isConst, Nat.reduceBEq, Nat.reduceEqDiff, ↓reduceIte, Nat.reduceLeDiff, Nat.reduceAdd, Nat.reduceMul, Nat.reduceSub, Nat.reduceLT, Int.reduceAdd, Int.reduceSub, Int.reduceMul, Int.reduceLT, Int.reduceLE, Int.reduceToNat, Int.reduceNeg, reduceIte, reduceCtorEq, true_and, and_true, Nat.zero_add, Nat.le_refl, if_true, ↓reduceIte, resOf, X_own, mv_int, mv_bool, mv_str, mv_sl, mv_nilS, mv_tup, mv2s_nil, mv2s_cons, mv2_int, mv2_bool, mv2_str, mv2_sl, mv2_nilS, Option.map_some, vi, vn, SPx, SSx, appendTo, elemsOf, SAx, ho]
      rfl
    have h := of_decide_eq_false h
    have h60 : ¬ 60 ≤ d := by omega
    rw [if_neg h60] at hpe ⊢
    clear h
    repeat (first
      | with_reducible first | refine W_seq ?_ | refine W_skip ?_ | refine W_label ?_ | refine W_ret ?_ | refine W_exit ?_ | refine W_block ?_ | refine thenI ?_ | refine thenRet ?_ | refine thenExit ?_ | refine blockRet ?_ | refine blockI ?_ | refine blockExit ?_ | refine blockExitNe rfl ?_
      | (with_reducible refine W_region_k ?_
         intro K hK
         simp (maxSteps := 2000000) (disch := omega) only [SA, ofValue, ofCell, bin, intBin, un, idx, Go.Ev.builtin, calleeOf, V.isNilS, V.depthOk, depth1, V.ok1, V.isAgg, V.cells, isConst, Nat.reduceBEq, Nat.reduceEqDiff, ↓reduceIte, Nat.reduceLeDiff, Nat.reduceAdd, Nat.reduceMul, Nat.reduceSub, Nat.reduceLT, Int.reduceAdd, Int.reduceSub, Int.reduceMul, Int.reduceLT, Int.reduceLE, Int.reduceToNat, Int.reduceNeg, reduceIte, reduceCtorEq, SPx, h16]
         refine hK _ _ ?_
         clear hK K)
    )
    with_reducible refine W_cond2 (by simp only [SO, ofValue, ofCell, Nat.reduceBEq, Nat.reduceEqDiff, ↓reduceIte]; rfl) (fun h => ?_) (fun h => ?_)
    · have h := eq_of_beq h
      clear hpe
      repeat (first
        | with_reducible first | refine W_seq ?_ | refine W_skip ?_ | refine W_label ?_ | refine W_ret ?_ | refine W_exit ?_ | refine W_block ?_ | refine thenI ?_ | refine thenRet ?_ | refine thenExit ?_ | refine blockRet ?_ | refine blockI ?_ | refine blockExit ?_ | refine blockExitNe rfl ?_
        | (with_reducible refine W_region_k ?_
           intro K hK
           simp (maxSteps := 2000000) (disch := omega) only [SA, ofValue, ofCell, bin, intBin, un, idx, Go.Ev.builtin, calleeOf, V.isNilS, V.depthOk, depth1, V.ok1, V.isAgg, V.cells, isConst, Nat.reduceBEq, Nat.reduceEqDiff, ↓reduceIte, Nat.reduceLeDiff, Nat.reduceAdd, Nat.reduceMul, Nat.reduceSub, Nat.reduceLT, Int.reduceAdd, Int.reduceSub, Int.reduceMul, Int.reduceLT, Int.reduceLE, Int.reduceToNat, Int.reduceNeg, reduceIte, reduceCtorEq, SPx, h3]
           refine hK _ _ ?_
           clear hK K)
      )
      refine end_ret hd (by simp (maxSteps := 2000000) (disch := omega) only [Tryd.results34, resVars, resVar, SA, ofValue, ofCell, bin, intBin, un, idx, Go.Ev.builtin, calleeOf, V.isNilS, V.depthOk, depth1, V.ok1, V.isAgg, V.cells, isConst, Nat.reduceBEq, Nat.reduceEqDiff, ↓reduceIte, Nat.reduceLeDiff, Nat.reduceAdd, Nat.reduceMul, Nat.reduceSub, Nat.reduceLT, Int.reduceAdd, Int.reduceSub, Int.reduceMul, Int.reduceLT, Int.reduceLE, Int.reduceToNat, Int.reduceNeg, reduceIte, reduceCtorEq, SPx, SSx, appendTo, elemsOf, SAx, ho]; rfl) ?_
      simp (maxSteps := 2000000) (disch := omega) only [SA, ofValue, ofCell, bin, intBin, un, idx, Go.Ev.builtin, calleeOf, V.isNilS, V.depthOk, depth1, V.ok1, V.isAgg, V.cells, isConst, Nat.reduceBEq, Nat.reduceEqDiff, ↓reduceIte, Nat.reduceLeDiff, Nat.reduceAdd, Nat.reduceMul, Nat.reduceSub, Nat.reduceLT, Int.reduceAdd, Int.reduceSub, Int.reduceMul, Int.reduceLT, Int.reduceLE, Int.reduceToNat, Int.reduceNeg, reduceIte, reduceCtorEq, true_and, and_true, Nat.zero_add, Nat.le_refl, if_true, ↓reduceIte, resOf, X_own, mv_int, mv_bool, mv_str, mv_sl, mv_nilS, mv_tup, mv2s_nil, mv2s_cons, mv2_int, mv2_bool, mv2_str, mv2_sl, mv2_nilS, Option.map_some, vi, vn, SPx, SSx, appendTo, elemsOf, SAx, ho]
      rfl
    have h := ne_of_beq_false h
    have hn16 : ¬ i = 16 := by omega
    rw [if_neg hn16] at hpe ⊢
    clear h
    refine W_seq ?_
    refine W_mid (fun st' => st'.dfs = [] ∧ st'.m = st.m ∧ st'.t.get 2 = .rs ⟨0, 2, 1, g⟩ ty 0 acc.length ∧ st'.t.get 3 = vn at' ∧ st'.t.get 5 = .sl (strs L) ∧ st'.t.get 14 = .sl (strs L) ∧ st'.t.get 15 = vn L.length ∧ st'.t.get 16 = vn i ∧
      st'.t.get 7 = .str p ∧ st'.t.get 8 = vn d ∧ st'.t.get 38 = .bool (decide (d = 0 ∧ (i = 0 ∨ i = L.length - 1)))) ?_ ?_
    · clear hpe hlt hpl
      by_cases d0 : d = 0
      · have e1 : (((d : Nat) : Int) == 0) = true := by rw [d0]; rfl
        by_cases i0 : i = 0
        · have e2 : (((i : Nat) : Int) == 0) = true := by rw [i0]; rfl
          repeat (first
            | with_reducible first | refine W_seq ?_ | refine W_skip ?_ | refine W_label ?_ | refine W_ret ?_ | refine W_exit ?_ | refine W_block ?_ | refine thenI ?_ | refine thenRet ?_ | refine thenExit ?_ | refine blockRet ?_ | refine blockI ?_ | refine blockExit ?_ | refine blockExitNe rfl ?_
            | (with_reducible refine W_region_k ?_
               intro K hK
               simp (maxSteps := 2000000) (disch := omega) only [SA, ofValue, ofCell, bin, intBin, un, idx, Go.Ev.builtin, calleeOf, V.isNilS, V.depthOk, depth1, V.ok1, V.isAgg, V.cells, isConst, Nat.reduceBEq, Nat.reduceEqDiff, ↓reduceIte, Nat.reduceLeDiff, Nat.reduceAdd, Nat.reduceMul, Nat.reduceSub, Nat.reduceLT, Int.reduceAdd, Int.reduceSub, Int.reduceMul, Int.reduceLT, Int.reduceLE, Int.reduceToNat, Int.reduceNeg, reduceIte, reduceCtorEq, SPx, SSx, appendTo, elemsOf, e1, e2]
               refine hK _ _ ?_
               clear hK K)
          )
          refine ⟨hd, rfl, ?_, ?_, ?_, ?_, ?_, ?_, ?_, ?_, ?_⟩
          all_goals (try simp (maxSteps := 2000000) (disch := omega) only [SO, ofValue, ofCell, Nat.reduceBEq, Nat.reduceEqDiff, ↓reduceIte, and_self, and_true, true_and, Mem.newRef_eq, Mem.gen_nil, Mem.gen_new, Mem.gen_set, Mem.row_new, Mem.row_setW, Mem.new_out, Mem.set_out, List.length_nil, List.length_cons, Nat.zero_le, Nat.le_refl, Nat.reduceLeDiff, Nat.reduceAdd, and_self, and_true, true_and, Nat.zero_add, h2, h3, h5, h14, h15, h16])
          rw [decide_eq_true (p := d = 0 ∧ (i = 0 ∨ i = L.length - 1)) ⟨d0, .inl i0⟩]
        · have e2 : (((i : Nat) : Int) == 0) = false := by rw [beq_eq_false_iff_ne]; omega
          have e4 : V.int .i64 (wr .i64 ((L.length : Int) - 1)) = V.int .i64 ((L.length - 1 : Nat) : Int) := by rw [wr_i64 (by omega) (by omega)]; congr 1; omega
          have e5 : V.bool (((i : Nat) : Int) == ((L.length - 1 : Nat) : Int)) = V.bool (decide (i = L.length - 1)) := by
            congr 1
            by_cases h : i = L.length - 1
            · rw [decide_eq_true h, ← h, beq_self_eq_true]
            · rw [decide_eq_false h, beq_eq_false_iff_ne]; omega
          repeat (first
            | with_reducible first | refine W_seq ?_ | refine W_skip ?_ | refine W_label ?_ | refine W_ret ?_ | refine W_exit ?_ | refine W_block ?_ | refine thenI ?_ | refine thenRet ?_ | refine thenExit ?_ | refine blockRet ?_ | refine blockI ?_ | refine blockExit ?_ | refine blockExitNe rfl ?_
            | (with_reducible refine W_region_k ?_
               intro K hK
               simp (maxSteps := 2000000) (disch := omega) only [SA, ofValue, ofCell, bin, intBin, un, idx, Go.Ev.builtin, calleeOf, V.isNilS, V.depthOk, depth1, V.ok1, V.isAgg, V.cells, isConst, Nat.reduceBEq, Nat.reduceEqDiff, ↓reduceIte, Nat.reduceLeDiff, Nat.reduceAdd, Nat.reduceMul, Nat.reduceSub, Nat.reduceLT, Int.reduceAdd, Int.reduceSub, Int.reduceMul, Int.reduceLT, Int.reduceLE, Int.reduceToNat, Int.reduceNeg, reduceIte, reduceCtorEq, SPx, SSx, appendTo, elemsOf, e1, e2, e4, e5, h5, h16, strs_length]
               refine hK _ _ ?_
               clear hK K)
          )
          refine ⟨hd, rfl, ?_, ?_, ?_, ?_, ?_, ?_, ?_, ?_, ?_⟩
          all_goals (try simp (maxSteps := 2000000) (disch := omega) only [SO, ofValue, ofCell, Nat.reduceBEq, Nat.reduceEqDiff, ↓reduceIte, and_self, and_true, true_and, Mem.newRef_eq, Mem.gen_nil, Mem.gen_new, Mem.gen_set, Mem.row_new, Mem.row_setW, Mem.new_out, Mem.set_out, List.length_nil, List.length_cons, Nat.zero_le, Nat.le_refl, Nat.reduceLeDiff, Nat.reduceAdd, and_self, and_true, true_and, Nat.zero_add, h2, h3, h5, h14, h15, h16])
          congr 1
          by_cases h : i = L.length - 1
          · rw [decide_eq_true h, decide_eq_true (p := d = 0 ∧ (i = 0 ∨ i = L.length - 1)) ⟨d0, .inr h⟩]
          · rw [decide_eq_false h, decide_eq_false (p := d = 0 ∧ (i = 0 ∨ i = L.length - 1)) (fun e => by omega)]
      · have e1 : (((d : Nat) : Int) == 0) = false := by rw [beq_eq_false_iff_ne]; omega
        repeat (first
          | with_reducible first | refine W_seq ?_ | refine W_skip ?_ | refine W_label ?_ | refine W_ret ?_ | refine W_exit ?_ | refine W_block ?_ | refine thenI ?_ | refine thenRet ?_ | refine thenExit ?_ | refine blockRet ?_ | refine blockI ?_ | refine blockExit ?_ | refine blockExitNe rfl ?_
          | (with_reducible refine W_region_k ?_
             intro K hK
             simp (maxSteps := 2000000) (disch := omega) only [SA, ofValue, ofCell, bin, intBin, un, idx, Go.Ev.builtin, calleeOf, V.isNilS, V.depthOk, depth1, V.ok1, V.isAgg, V.cells, isConst, Nat.reduceBEq, Nat.reduceEqDiff, ↓reduceIte, Nat.reduceLeDiff, Nat.reduceAdd, Nat.reduceMul, Nat.reduceSub, Nat.reduceLT, Int.reduceAdd, Int.reduceSub, Int.reduceMul, Int.reduceLT, Int.reduceLE, Int.reduceToNat, Int.reduceNeg, reduceIte, reduceCtorEq, SPx, SSx, appendTo, elemsOf, e1]
             refine hK _ _ ?_
             clear hK K)
        )
        refine ⟨hd, rfl, ?_, ?_, ?_, ?_, ?_, ?_, ?_, ?_, ?_⟩
        all_goals (try simp (maxSteps := 2000000) (disch := omega) only [SO, ofValue, ofCell, Nat.reduceBEq, Nat.reduceEqDiff, ↓reduceIte, and_self, and_true, true_and, Mem.newRef_eq, Mem.gen_nil, Mem.gen_new, Mem.gen_set, Mem.row_new, Mem.row_setW, Mem.new_out, Mem.set_out, List.length_nil, List.length_cons, Nat.zero_le, Nat.le_refl, Nat.reduceLeDiff, Nat.reduceAdd, and_self, and_true, true_and, Nat.zero_add, h2, h3, h5, h14, h15, h16])
        rw [decide_eq_false (p := d = 0 ∧ (i = 0 ∨ i = L.length - 1)) (fun e => d0 e.1)]
    intro st' hM
    clear hd
    obtain ⟨hd, hm', h2', h3', h5', h14', h15', h16', h7', h8', h38'⟩ := hM
    rw [← hm'] at r2 ho
    clear hm' h2 h3 h5 h14 h15 h16
    repeat (first
      | with_reducible first | refine W_seq ?_ | refine W_skip ?_ | refine W_label ?_ | refine W_ret ?_ | refine W_exit ?_ | refine W_block ?_ | refine thenI ?_ | refine thenRet ?_ | refine thenExit ?_ | refine blockRet ?_ | refine blockI ?_ | refine blockExit ?_ | refine blockExitNe rfl ?_
      | (with_reducible refine W_region_k ?_
         intro K hK
         simp (maxSteps := 2000000) (disch := omega) only [SA, ofValue, ofCell, bin, intBin, un, idx, Go.Ev.builtin, calleeOf, V.isNilS, V.depthOk, depth1, V.ok1, V.isAgg, V.cells, isConst, Nat.reduceBEq, Nat.reduceEqDiff, ↓reduceIte, Nat.reduceLeDiff, Nat.reduceAdd, Nat.reduceMul, Nat.reduceSub, Nat.reduceLT, Int.reduceAdd, Int.reduceSub, Int.reduceMul, Int.reduceLT, Int.reduceLE, Int.reduceToNat, Int.reduceNeg, reduceIte, reduceCtorEq, SPx, h38']
         refine hK _ _ ?_
         clear hK K)
    )
    with_reducible refine W_cond2 (by simp only [SO, ofValue, ofCell, Nat.reduceBEq, Nat.reduceEqDiff, ↓reduceIte, h38']; rfl) (fun h => ?_) (fun h => ?_)
    · have h := of_decide_eq_true h
      clear hpe
      repeat (first
        | with_reducible first | refine W_seq ?_ | refine W_skip ?_ | refine W_label ?_ | refine W_ret ?_ | refine W_exit ?_ | refine W_block ?_ | refine thenI ?_ | refine thenRet ?_ | refine thenExit ?_ | refine blockRet ?_ | refine blockI ?_ | refine blockExit ?_ | refine blockExitNe rfl ?_
        | (with_reducible refine W_region_k ?_
           intro K hK
           simp (maxSteps := 2000000) (disch := omega) only [SA, ofValue, ofCell, bin, intBin, un, idx, Go.Ev.builtin, calleeOf, V.isNilS, V.depthOk, depth1, V.ok1, V.isAgg, V.cells, isConst, Nat.reduceBEq, Nat.reduceEqDiff, ↓reduceIte, Nat.reduceLeDiff, Nat.reduceAdd, Nat.reduceMul, Nat.reduceSub, Nat.reduceLT, Int.reduceAdd, Int.reduceSub, Int.reduceMul, Int.reduceLT, Int.reduceLE, Int.reduceToNat, Int.reduceNeg, reduceIte, reduceCtorEq, SPx, h3']
           refine hK _ _ ?_
           clear hK K)
      )
      refine end_ret hd (by simp (maxSteps := 2000000) (disch := omega) only [Tryd.results34, resVars, resVar, SA, ofValue, ofCell, bin, intBin, un, idx, Go.Ev.builtin, calleeOf, V.isNilS, V.depthOk, depth1, V.ok1, V.isAgg, V.cells, isConst, Nat.reduceBEq, Nat.reduceEqDiff, ↓reduceIte, Nat.reduceLeDiff, Nat.reduceAdd, Nat.reduceMul, Nat.reduceSub, Nat.reduceLT, Int.reduceAdd, Int.reduceSub, Int.reduceMul, Int.reduceLT, Int.reduceLE, Int.reduceToNat, Int.reduceNeg, reduceIte, reduceCtorEq, SPx, SSx, appendTo, elemsOf, SAx, ho]; rfl) ?_
      simp (maxSteps := 2000000) (disch := omega) only [SA, ofValue, ofCell, bin, intBin, un, idx, Go.Ev.builtin, calleeOf, V.isNilS, V.depthOk, depth1, V.ok1, V.isAgg, V.cells, isConst, Nat.reduceBEq, Nat.reduceEqDiff, ↓reduceIte, Nat.reduceLeDiff, Nat.reduceAdd, Nat.reduceMul, Nat.reduceSub, Nat.reduceLT, Int.reduceAdd, Int.reduceSub, Int.reduceMul, Int.reduceLT, Int.reduceLE, Int.reduceToNat, Int.reduceNeg, reduceIte, reduceCtorEq, true_and, and_true, Nat.zero_add, Nat.le_refl, if_true, ↓reduceIte, resOf, X_own, mv_int, mv_bool, mv_str, mv_sl, mv_nilS, mv_tup, mv2s_nil, mv2s_cons, mv2_int, mv2_bool, mv2_str, mv2_sl, mv2_nilS, Option.map_some, vi, vn, SPx, SSx, appendTo, elemsOf, SAx, ho]
      rfl
    · have h := of_decide_eq_false h
      rw [if_neg h] at hpe ⊢
      have e1 : V.int .i64 (wr .i64 ((at' : Int) + (p.length + 1 : Nat))) = V.int .i64 ((at' + (p.length + 1) : Nat) : Int) := by rw [wr_i64 (by omega) (by omega)]; congr 1
      have e2 : V.int .i64 (wr .i64 ((p.length : Int) + 1)) = V.int .i64 ((p.length + 1 : Nat) : Int) := by rw [wr_i64 (by omega) (by omega)]; congr 1
      have e3 : V.int .i64 (wr .i64 ((i : Int) + 1)) = V.int .i64 ((i + 1 : Nat) : Int) := by rw [wr_i64 (by omega) (by omega)]; congr 1
      have hinv : at' + (p.length + 1) ≤ (i + 1) * 4294967296 ∧ i + 1 ≤ 16 ∧ i + 1 ≤ L.length ∧ L.length - (i + 1) < L.length - i := by omega
      have hacc' : (acc ++ [d]).length = i + 1 := by simp [hacc]
      clear hat h hlt hpm
      repeat (first
        | with_reducible first | refine W_seq ?_ | refine W_skip ?_ | refine W_label ?_ | refine W_ret ?_ | refine W_exit ?_ | refine W_block ?_ | refine thenI ?_ | refine thenRet ?_ | refine thenExit ?_ | refine blockRet ?_ | refine blockI ?_ | refine blockExit ?_ | refine blockExitNe rfl ?_
        | (with_reducible refine W_region_k ?_
           intro K hK
           simp (maxSteps := 2000000) (disch := omega) only [SA, ofValue, ofCell, bin, intBin, un, idx, Go.Ev.builtin, calleeOf, V.isNilS, V.depthOk, depth1, V.ok1, V.isAgg, V.cells, isConst, Nat.reduceBEq, Nat.reduceEqDiff, ↓reduceIte, Nat.reduceLeDiff, Nat.reduceAdd, Nat.reduceMul, Nat.reduceSub, Nat.reduceLT, Int.reduceAdd, Int.reduceSub, Int.reduceMul, Int.reduceLT, Int.reduceLE, Int.reduceToNat, Int.reduceNeg, reduceIte, reduceCtorEq, SPx, SSx, appendTo, elemsOf, e1, e2, e3, h2', h3', h7', h8', h16', r2, ho, hty]
           refine hK _ _ ?_
           clear hK K)
      )
      refine ⟨(i + 1, at' + (p.length + 1), acc ++ [d]), ⟨hd, ?_, ?_, ?_, ?_, ?_, ?_, ⟨g + 1, 3, ?_, ?_, .inl rfl⟩, hinv.2.2.1, hinv.2.1, hinv.1, hacc', rfl⟩, hinv.2.2.2⟩
      all_goals (try simp (maxSteps := 2000000) (disch := omega) only [SO, ofValue, ofCell, Nat.reduceBEq, Nat.reduceEqDiff, ↓reduceIte, and_self, and_true, true_and, Mem.newRef_eq, Mem.gen_nil, Mem.gen_new, Mem.gen_set, Mem.row_new, Mem.row_setW, Mem.new_out, Mem.set_out, List.length_nil, List.length_cons, Nat.zero_le, Nat.le_refl, Nat.reduceLeDiff, Nat.reduceAdd, and_self, and_true, true_and, Nat.zero_add, SSx, appendTo, elemsOf, h2', h3', h5', h14', h15', ho])
  · have h := of_decide_eq_false h
    obtain rfl : i = L.length := by omega
    rw [List.drop_length, parseL] at hpe
    rw [hpe]
    repeat (first
      | with_reducible first | refine W_seq ?_ | refine W_skip ?_ | refine W_label ?_ | refine W_ret ?_ | refine W_exit ?_ | refine W_block ?_ | refine thenI ?_ | refine thenRet ?_ | refine thenExit ?_ | refine blockRet ?_ | refine blockI ?_ | refine blockExit ?_ | refine blockExitNe rfl ?_
      | (with_reducible refine W_region_k ?_
         intro K hK
         simp (maxSteps := 2000000) (disch := omega) only [SA, ofValue, ofCell, bin, intBin, un, idx, Go.Ev.builtin, calleeOf, V.isNilS, V.depthOk, depth1, V.ok1, V.isAgg, V.cells, isConst, Nat.reduceBEq, Nat.reduceEqDiff, ↓reduceIte, Nat.reduceLeDiff, Nat.reduceAdd, Nat.reduceMul, Nat.reduceSub, Nat.reduceLT, Int.reduceAdd, Int.reduceSub, Int.reduceMul, Int.reduceLT, Int.reduceLE, Int.reduceToNat, Int.reduceNeg, reduceIte, reduceCtorEq, SPx, SSx, appendTo, elemsOf, h2]
         refine hK _ _ ?_
         clear hK K)
    )
    refine end_ret hd (by simp (maxSteps := 2000000) (disch := omega) only [Tryd.results34, resVars, resVar, SA, ofValue, ofCell, bin, intBin, un, idx, Go.Ev.builtin, calleeOf, V.isNilS, V.depthOk, depth1, V.ok1, V.isAgg, V.cells, isConst, Nat.reduceBEq, Nat.reduceEqDiff, ↓reduceIte, Nat.reduceLeDiff, Nat.reduceAdd, Nat.reduceMul, Nat.reduceSub, Nat.reduceLT, Int.reduceAdd, Int.reduceSub, Int.reduceMul, Int.reduceLT, Int.reduceLE, Int.reduceToNat, Int.reduceNeg, reduceIte, reduceCtorEq, SPx, SSx, appendTo, elemsOf, SAx, ho, h2, r2]; rfl) ?_
    simp (maxSteps := 2000000) (disch := omega) only [SA, ofValue, ofCell, bin, intBin, un, idx, Go.Ev.builtin, calleeOf, V.isNilS, V.depthOk, depth1, V.ok1, V.isAgg, V.cells, isConst, Nat.reduceBEq, Nat.reduceEqDiff, ↓reduceIte, Nat.reduceLeDiff, Nat.reduceAdd, Nat.reduceMul, Nat.reduceSub, Nat.reduceLT, Int.reduceAdd, Int.reduceSub, Int.reduceMul, Int.reduceLT, Int.reduceLE, Int.reduceToNat, Int.reduceNeg, reduceIte, reduceCtorEq, true_and, and_true, Nat.zero_add, Nat.le_refl, if_true, ↓reduceIte, resOf, X_own, mv_int, mv_bool, mv_str, mv_sl, mv_nilS, mv_tup, mv2s_nil, mv2s_cons, mv2_int, mv2_bool, mv2_str, mv2_sl, mv2_nilS, Option.map_some, vi, vn, SPx, SSx, appendTo, elemsOf, SAx, ho, h2, r2]
    rfl
end Go.Proofs.YtpocekfifokndaaDoor
namespace Go.Proofs.YtpocekfifokndaaDoor
open Go Go.Ev Go.Pl
set_option maxRecDepth 100000
set_option maxHeartbeats 4000000
theorem P106 (k : Nat) (hk : k ≤ 10) : Ans X 106 [vn k] (.ret (vn (60 ^ k))) := by
  refine call_of_X (fn := Tryd.f106) 1 Tryd.func106 rfl (by decide +kernel) rfl ?_ ?_ ?_ ?_
  · rfl
  · exact fun _ => rfl
  · intro v hv; injection hv with hv; subst hv; rfl
  intro s hs hd ho
  have h0 : s.t.get 0 = vn k := by subst hs; rfl
  clear hs
  repeat (first
    | with_reducible first | refine W_seq ?_ | refine W_skip ?_ | refine W_label ?_ | refine W_ret ?_ | refine W_exit ?_ | refine W_block ?_ | refine thenI ?_ | refine thenRet ?_ | refine thenExit ?_ | refine blockRet ?_ | refine blockI ?_ | refine blockExit ?_ | refine blockExitNe rfl ?_
    | (with_reducible refine W_region_k ?_
       intro K hK
       simp (maxSteps := 2000000) (disch := omega) only [SA, ofValue, ofCell, bin, intBin, un, idx, Go.Ev.builtin, calleeOf, V.isNilS, V.depthOk, depth1, V.ok1, V.isAgg, V.cells, isConst, Nat.reduceBEq, Nat.reduceEqDiff, ↓reduceIte, Nat.reduceLeDiff, Nat.reduceAdd, Nat.reduceMul, Nat.reduceSub, Nat.reduceLT, Int.reduceAdd, Int.reduceSub, Int.reduceMul, Int.reduceLT, Int.reduceLE, Int.reduceToNat, Int.reduceNeg, reduceIte, reduceCtorEq, SPx, h0]
       refine hK _ _ ?_
       clear hK K)
  )
  refine W_loopg (fun (i : Nat) s => s.dfs = [] ∧ s.t.get 3 = vn (60 ^ i) ∧ s.t.get 4 = vn k ∧ s.t.get 5 = vn i ∧ i ≤ k) (fun i => k - i) 0 ?_ ?_
  · refine ⟨hd, ?_, ?_, ?_, Nat.zero_le _⟩
    all_goals (try simp (maxSteps := 2000000) (disch := omega) only [SO, ofValue, ofCell, Nat.reduceBEq, Nat.reduceEqDiff, ↓reduceIte, and_self, and_true, true_and, Mem.newRef_eq, Mem.gen_nil, Mem.gen_new, Mem.gen_set, Mem.row_new, Mem.row_setW, Mem.new_out, Mem.set_out, List.length_nil, List.length_cons, Nat.zero_le, Nat.le_refl, Nat.reduceLeDiff, Nat.reduceAdd, and_self, and_true, true_and, Nat.zero_add, h0])
    all_goals rfl
  clear hd h0 ho
  rintro i s ⟨hd, h3, h4, h5, hi⟩
  repeat (first
    | with_reducible first | refine W_seq ?_ | refine W_skip ?_ | refine W_label ?_ | refine W_ret ?_ | refine W_exit ?_ | refine W_block ?_ | refine thenI ?_ | refine thenRet ?_ | refine thenExit ?_ | refine blockRet ?_ | refine blockI ?_ | refine blockExit ?_ | refine blockExitNe rfl ?_
    | (with_reducible refine W_region_k ?_
       intro K hK
       simp (maxSteps := 2000000) (disch := omega) only [SA, ofValue, ofCell, bin, intBin, un, idx, Go.Ev.builtin, calleeOf, V.isNilS, V.depthOk, depth1, V.ok1, V.isAgg, V.cells, isConst, Nat.reduceBEq, Nat.reduceEqDiff, ↓reduceIte, Nat.reduceLeDiff, Nat.reduceAdd, Nat.reduceMul, Nat.reduceSub, Nat.reduceLT, Int.reduceAdd, Int.reduceSub, Int.reduceMul, Int.reduceLT, Int.reduceLE, Int.reduceToNat, Int.reduceNeg, reduceIte, reduceCtorEq, SPx, h3, h4, h5]
       refine hK _ _ ?_
       clear hK K)
  )
  with_reducible refine W_cond2 (by simp only [SO, ofValue, ofCell, Nat.reduceBEq, Nat.reduceEqDiff, ↓reduceIte]; rfl) (fun h => ?_) (fun h => ?_)
  · have h := of_decide_eq_true h
    have hb : 60 ^ i * 60 < 9223372036854775808 := by
      rw [← Nat.pow_succ]
      exact Nat.lt_of_le_of_lt (Nat.pow_le_pow_right (by decide) (show i.succ ≤ 10 by omega)) (by decide)
    repeat (first
      | with_reducible first | refine W_seq ?_ | refine W_skip ?_ | refine W_label ?_ | refine W_ret ?_ | refine W_exit ?_ | refine W_block ?_ | refine thenI ?_ | refine thenRet ?_ | refine thenExit ?_ | refine blockRet ?_ | refine blockI ?_ | refine blockExit ?_ | refine blockExitNe rfl ?_
      | (with_reducible refine W_region_k ?_
         intro K hK
         simp (maxSteps := 2000000) (disch := omega) only [SA, ofValue, ofCell, bin, intBin, un, idx, Go.Ev.builtin, calleeOf, V.isNilS, V.depthOk, depth1, V.ok1, V.isAgg, V.cells, isConst, Nat.reduceBEq, Nat.reduceEqDiff, ↓reduceIte, Nat.reduceLeDiff, Nat.reduceAdd, Nat.reduceMul, Nat.reduceSub, Nat.reduceLT, Int.reduceAdd, Int.reduceSub, Int.reduceMul, Int.reduceLT, Int.reduceLE, Int.reduceToNat, Int.reduceNeg, reduceIte, reduceCtorEq, SPx, SCx, Int.reduceEq, h3, h4, h5]
         refine hK _ _ ?_
         clear hK K)
    )
    refine ⟨i + 1, ⟨hd, ?_, ?_, ?_, by omega⟩, by omega⟩
    all_goals (try simp (maxSteps := 2000000) (disch := omega) only [SO, ofValue, ofCell, Nat.reduceBEq, Nat.reduceEqDiff, ↓reduceIte, and_self, and_true, true_and, Mem.newRef_eq, Mem.gen_nil, Mem.gen_new, Mem.gen_set, Mem.row_new, Mem.row_setW, Mem.new_out, Mem.set_out, List.length_nil, List.length_cons, Nat.zero_le, Nat.le_refl, Nat.reduceLeDiff, Nat.reduceAdd, and_self, and_true, true_and, Nat.zero_add, h4])
    rw [Nat.pow_succ]
  · have h := of_decide_eq_false h
    obtain rfl : i = k := by omega
    repeat (first
      | with_reducible first | refine W_seq ?_ | refine W_skip ?_ | refine W_label ?_ | refine W_ret ?_ | refine W_exit ?_ | refine W_block ?_ | refine thenI ?_ | refine thenRet ?_ | refine thenExit ?_ | refine blockRet ?_ | refine blockI ?_ | refine blockExit ?_ | refine blockExitNe rfl ?_
      | (with_reducible refine W_region_k ?_
         intro K hK
         simp (maxSteps := 2000000) (disch := omega) only [SA, ofValue, ofCell, bin, intBin, un, idx, Go.Ev.builtin, calleeOf, V.isNilS, V.depthOk, depth1, V.ok1, V.isAgg, V.cells, isConst, Nat.reduceBEq, Nat.reduceEqDiff, ↓reduceIte, Nat.reduceLeDiff, Nat.reduceAdd, Nat.reduceMul, Nat.reduceSub, Nat.reduceLT, Int.reduceAdd, Int.reduceSub, Int.reduceMul, Int.reduceLT, Int.reduceLE, Int.reduceToNat, Int.reduceNeg, reduceIte, reduceCtorEq, SPx, h3]
         refine hK _ _ ?_
         clear hK K)
    )
    refine end_ret hd (by simp (maxSteps := 2000000) (disch := omega) only [Tryd.results106, resVars, resVar, SA, ofValue, ofCell, bin, intBin, un, idx, Go.Ev.builtin, calleeOf, V.isNilS, V.depthOk, depth1, V.ok1, V.isAgg, V.cells, isConst, Nat.reduceBEq, Nat.reduceEqDiff, ↓reduceIte, Nat.reduceLeDiff, Nat.reduceAdd, Nat.reduceMul, Nat.reduceSub, Nat.reduceLT, Int.reduceAdd, Int.reduceSub, Int.reduceMul, Int.reduceLT, Int.reduceLE, Int.reduceToNat, Int.reduceNeg, reduceIte, reduceCtorEq, SPx]; rfl) ?_
    simp (maxSteps := 2000000) (disch := omega) only [SA, ofValue, ofCell, bin, intBin, un, idx, Go.Ev.builtin, calleeOf, V.isNilS, V.depthOk, depth1, V.ok1, V.isAgg, V.cells, isConst, Nat.reduceBEq, Nat.reduceEqDiff, ↓reduceIte, Nat.reduceLeDiff, Nat.reduceAdd, Nat.reduceMul, Nat.reduceSub, Nat.reduceLT, Int.reduceAdd, Int.reduceSub, Int.reduceMul, Int.reduceLT, Int.reduceLE, Int.reduceToNat, Int.reduceNeg, reduceIte, reduceCtorEq, true_and, and_true, Nat.zero_add, Nat.le_refl, if_true, ↓reduceIte, resOf, X_own, mv_int, mv_bool, mv_str, mv_sl, mv_nilS, mv_tup, mv2s_nil, mv2s_cons, mv2_int, mv2_bool, mv2_str, mv2_sl, mv2_nilS, Option.map_some, vi, vn, SPx]
end Go.Proofs.YtpocekfifokndaaDoor
namespace Go.Proofs.YtpocekfifokndaaDoor
open Go Go.Ev Go.Pl
set_option maxRecDepth 100000
set_option maxHeartbeats 4000000
def shV (n : Nat) (sh : Int) : V := .agg [.sl (nats (digB n)), vi (vz n + sh)]
theorem shV_still (n : Nat) (sh : Int) : (shV n sh).still = true := rfl
theorem placeRes_whole {n : Nat} (hn : n < 60 ^ 16) : placeRes (n * 60 ^ 72) = .ret (.agg [.sl (nats (digB n)), vi (vz n)]) := by
  rcases Nat.eq_zero_or_pos n with rfl | h
  · rw [placeRes, Nat.zero_mul, if_pos rfl, digB_zero, vz_zero]; rfl
  · have h1 : n * 60 ^ 72 ≠ 0 := Nat.mul_ne_zero (by omega) (by decide)
    have h2 := vz_lt h hn
    have h3 := canL_len_core n
    have h4 : (canL n).length ≤ 16 := canL_length_le.2 hn
    rw [placeRes, if_neg h1, digB_shift, vz_shift h]
    have e : ((vz n + 72 : Nat) : Int) - 72 = (vz n : Int) := by omega
    rw [e, if_neg (by omega)]
theorem P107 (n : Nat) (sh : Int) (hn : n < 9000000000000000000) (h1 : -1000000 < sh) (h2 : sh < 1000000) : Ans X 107 [vn n, vi sh] (.ret (shV n sh)) := by
  refine call_of_X (fn := Tryd.f107) 2 Tryd.func107 rfl (by decide +kernel) rfl ?_ ?_ ?_ ?_
  · rfl
  · intro h; exact absurd h (by rw [sr107]; decide)
  · intro v hv; injection hv with hv; subst hv; rfl
  intro s hs hd ho
  have hm : s.m = ⟨.nil, []⟩ := by subst hs; rfl
  have t0 : s.t.get 0 = vn n := by subst hs; rfl
  have t1 : s.t.get 1 = vi sh := by subst hs; rfl
  clear hs
  have q1 := P88 n hn
  have hn16 : n < 60 ^ 16 := by omega
  have q2 := P81 (n * 60 ^ 72) (by
    calc n * 60 ^ 72 < 60 ^ 16 * 60 ^ 72 := Nat.mul_lt_mul_of_pos_right hn16 (by decide)
      _ ≤ 60 ^ 168 := by decide)
  rw [placeRes_whole hn16] at q2
  have hv : vz n < 17 := by
    rcases Nat.eq_zero_or_pos n with rfl | h
    · rw [vz_zero]; decide
    · have := vz_lt h hn16; omega
  repeat (first
    | with_reducible first | refine W_seq ?_ | refine W_skip ?_ | refine W_label ?_ | refine W_ret ?_ | refine W_exit ?_ | refine W_block ?_ | refine thenI ?_ | refine thenRet ?_ | refine thenExit ?_ | refine blockRet ?_ | refine blockI ?_ | refine blockExit ?_ | refine blockExitNe rfl ?_
    | (with_reducible refine W_region_k ?_
       intro K hK
       simp (maxSteps := 2000000) (disch := omega) only [SA, ofValue, ofCell, bin, intBin, un, idx, Go.Ev.builtin, calleeOf, V.isNilS, V.depthOk, depth1, V.ok1, V.isAgg, V.cells, isConst, Nat.reduceBEq, Nat.reduceEqDiff, ↓reduceIte, Nat.reduceLeDiff, Nat.reduceAdd, Nat.reduceMul, Nat.reduceSub, Nat.reduceLT, Int.reduceAdd, Int.reduceSub, Int.reduceMul, Int.reduceLT, Int.reduceLE, Int.reduceToNat, Int.reduceNeg, reduceIte, reduceCtorEq, SPx, SAx, SWx, t0, t1, hm, co88, sr88, co81, sr81, q1.iff, q2.iff, wr_i64]
       refine hK _ _ ?_
       clear hK K)
  )
  refine end_ret hd (by simp (maxSteps := 2000000) (disch := omega) only [Tryd.results107, resVars, resVar, SA, ofValue, ofCell, bin, intBin, un, idx, Go.Ev.builtin, calleeOf, V.isNilS, V.depthOk, depth1, V.ok1, V.isAgg, V.cells, isConst, Nat.reduceBEq, Nat.reduceEqDiff, ↓reduceIte, Nat.reduceLeDiff, Nat.reduceAdd, Nat.reduceMul, Nat.reduceSub, Nat.reduceLT, Int.reduceAdd, Int.reduceSub, Int.reduceMul, Int.reduceLT, Int.reduceLE, Int.reduceToNat, Int.reduceNeg, reduceIte, reduceCtorEq, SPx, SAx, SSx, appendTo, elemsOf, hm]; rfl) ?_
  simp (maxSteps := 2000000) (disch := omega) only [SA, ofValue, ofCell, bin, intBin, un, idx, Go.Ev.builtin, calleeOf, V.isNilS, V.depthOk, depth1, V.ok1, V.isAgg, V.cells, isConst, Nat.reduceBEq, Nat.reduceEqDiff, ↓reduceIte, Nat.reduceLeDiff, Nat.reduceAdd, Nat.reduceMul, Nat.reduceSub, Nat.reduceLT, Int.reduceAdd, Int.reduceSub, Int.reduceMul, Int.reduceLT, Int.reduceLE, Int.reduceToNat, Int.reduceNeg, reduceIte, reduceCtorEq, true_and, and_true, Nat.zero_add, Nat.le_refl, if_true, ↓reduceIte, resOf, X_own, mv_int, mv_bool, mv_str, mv_sl, mv_nilS, mv_tup, mv2s_nil, mv2s_cons, mv2_int, mv2_bool, mv2_str, mv2_sl, mv2_nilS, Option.map_some, vi, vn, SPx, SAx, SSx, appendTo, elemsOf, hm]
  rfl
end Go.Proofs.YtpocekfifokndaaDoor
namespace Go.Proofs.YtpocekfifokndaaDoor
open Go Go.Ev Go.Pl
set_option maxRecDepth 100000
set_option maxHeartbeats 4000000
def nearF (n B : Nat) : Nat → Nat → Nat
  | 0, k => k
  | f + 1, k => if 60 ^ k / n < B then nearF n B f (k + 1) else k
def nearK (n B : Nat) : Nat := nearF n B 16 0
theorem rowsOf_aggl (cs : List V) : rowsOf (.agg cs) = if cs.any V.loose then cs.flatMap rows1 else [] := rfl
theorem ptrs_aggl (cs : List V) : ptrs (.agg cs) = if cs.any V.loose then cs.any ptr1 else false := rfl
theorem near_step (n k : Nat) (hn : 0 < n) : 60 ^ (k + 1) / n = 60 ^ k / n * 60 + 60 ^ k % n * 60 / n ∧ 60 ^ (k + 1) % n = 60 ^ k % n * 60 % n := by
  have e : 60 ^ (k + 1) = 60 ^ k % n * 60 + 60 ^ k / n * 60 * n := by
    conv => lhs; rw [Nat.pow_succ, ← Nat.div_add_mod (60 ^ k) n]
    grind
  rw [e]
  constructor
  · rw [Nat.add_mul_div_right _ _ hn, Nat.add_comm]
  · rw [Nat.add_mul_mod_self_right]
theorem P44 (n d : Nat) (hn0 : 0 < n) (hn : n ≤ 1099511627776) (hd0 : 0 < d) (hd8 : d ≤ 8) : Ans X 44 [vn n, vn d]
    (.ret (.tup [shV (60 ^ nearK n (60 ^ (d - 1)) / n) (-(nearK n (60 ^ (d - 1)) : Nat)), shV (60 ^ nearK n (60 ^ (d - 1)) / n + (if 0 < 60 ^ nearK n (60 ^ (d - 1)) % n then 1 else 0)) (-(nearK n (60 ^ (d - 1)) : Nat)), vi 0])) := by
  refine call_of_X (fn := Tryd.f44) 2 Tryd.func44 rfl (by decide +kernel) rfl ?_ ?_ ?_ ?_
  · rfl
  · intro h; exact absurd h (by rw [sr44]; decide)
  · intro v hv; injection hv with hv; subst hv; rfl
  intro s hs hd ho
  have hm : s.m = ⟨.nil, []⟩ := by subst hs; rfl
  have h0 : s.t.get 0 = vn n := by subst hs; rfl
  have h1 : s.t.get 1 = vn d := by subst hs; rfl
  clear hs
  have g1 : ¬ ((n : Int) < 1) := by omega
  have g2 : ¬ ((n : Int) > 1099511627776) := by omega
  have g3 : ¬ ((d : Int) < 1) := by omega
  have g4 : ¬ ((d : Int) > 8) := by omega
  have hB : 60 ^ (d - 1) ≤ 60 ^ 7 := Nat.pow_le_pow_right (by decide) (by omega)
  have q1 := P106 (d - 1) (by omega)
  have hsub : (d : Int) - 1 = ((d - 1 : Nat) : Int) := by omega
  generalize d - 1 = d' at *
  generalize hBe : 60 ^ d' = B at *
  have hn1 : ¬ ((n : Int) = 0) := by omega
  repeat (first
    | with_reducible first | refine W_seq ?_ | refine W_skip ?_ | refine W_label ?_ | refine W_ret ?_ | refine W_exit ?_ | refine W_block ?_ | refine thenI ?_ | refine thenRet ?_ | refine thenExit ?_ | refine blockRet ?_ | refine blockI ?_ | refine blockExit ?_ | refine blockExitNe rfl ?_
    | (with_reducible refine W_region_k ?_
       intro K hK
       simp (maxSteps := 2000000) (disch := omega) only [SA, ofValue, ofCell, bin, intBin, un, idx, Go.Ev.builtin, calleeOf, V.isNilS, V.depthOk, depth1, V.ok1, V.isAgg, V.cells, isConst, Nat.reduceBEq, Nat.reduceEqDiff, ↓reduceIte, Nat.reduceLeDiff, Nat.reduceAdd, Nat.reduceMul, Nat.reduceSub, Nat.reduceLT, Int.reduceAdd, Int.reduceSub, Int.reduceMul, Int.reduceLT, Int.reduceLE, Int.reduceToNat, Int.reduceNeg, reduceIte, reduceCtorEq, SPx, SAx, h0, h1, hm, g1, g2, g3, g4]
       refine hK _ _ ?_
       clear hK K)
    | (refine W_draw_k (by decide +kernel) ?_
       intro K hK
       simp (maxSteps := 2000000) (disch := omega) only [SA, ofValue, ofCell, bin, intBin, un, idx, Go.Ev.builtin, calleeOf, V.isNilS, V.depthOk, depth1, V.ok1, V.isAgg, V.cells, isConst, Nat.reduceBEq, Nat.reduceEqDiff, ↓reduceIte, Nat.reduceLeDiff, Nat.reduceAdd, Nat.reduceMul, Nat.reduceSub, Nat.reduceLT, Int.reduceAdd, Int.reduceSub, Int.reduceMul, Int.reduceLT, Int.reduceLE, Int.reduceToNat, Int.reduceNeg, reduceIte, reduceCtorEq, SD, SPx, SAx, h0, h1, hm, g1, g2, g3, g4]
       repeat (refine ⟨by decide +kernel, ?_⟩)
       refine hK _ _ ?_
       clear hK K))
  with_reducible refine W_cond2 (by simp only [SO, ofValue, ofCell, Nat.reduceBEq, Nat.reduceEqDiff, ↓reduceIte]; rfl) (fun h => ?_) (fun h => ?_)
  · simp at h
  have hq : Int.tdiv 1 (n : Int) = ((60 ^ 0 / n : Nat) : Int) := rfl
  have hr : Int.tmod 1 (n : Int) = ((60 ^ 0 % n : Nat) : Int) := rfl
  have hq1 : 60 ^ 0 / n < 2 := by
    have := Nat.div_le_self (60 ^ 0) n
    have h1 : (60 : Nat) ^ 0 = 1 := rfl
    omega
  repeat (first
    | with_reducible first | refine W_seq ?_ | refine W_skip ?_ | refine W_label ?_ | refine W_ret ?_ | refine W_exit ?_ | refine W_block ?_ | refine thenI ?_ | refine thenRet ?_ | refine thenExit ?_ | refine blockRet ?_ | refine blockI ?_ | refine blockExit ?_ | refine blockExitNe rfl ?_
    | (with_reducible refine W_region_k ?_
       intro K hK
       simp (maxSteps := 2000000) (disch := omega) only [SA, ofValue, ofCell, bin, intBin, un, idx, Go.Ev.builtin, calleeOf, V.isNilS, V.depthOk, depth1, V.ok1, V.isAgg, V.cells, isConst, Nat.reduceBEq, Nat.reduceEqDiff, ↓reduceIte, Nat.reduceLeDiff, Nat.reduceAdd, Nat.reduceMul, Nat.reduceSub, Nat.reduceLT, Int.reduceAdd, Int.reduceSub, Int.reduceMul, Int.reduceLT, Int.reduceLE, Int.reduceToNat, Int.reduceNeg, reduceIte, reduceCtorEq, SPx, SAx, h0, h1, hm, hn1, hq, hr, wr_nat]
       refine hK _ _ ?_
       clear hK K)
    | (refine W_draw_k (by decide +kernel) ?_
       intro K hK
       simp (maxSteps := 2000000) (disch := omega) only [SA, ofValue, ofCell, bin, intBin, un, idx, Go.Ev.builtin, calleeOf, V.isNilS, V.depthOk, depth1, V.ok1, V.isAgg, V.cells, isConst, Nat.reduceBEq, Nat.reduceEqDiff, ↓reduceIte, Nat.reduceLeDiff, Nat.reduceAdd, Nat.reduceMul, Nat.reduceSub, Nat.reduceLT, Int.reduceAdd, Int.reduceSub, Int.reduceMul, Int.reduceLT, Int.reduceLE, Int.reduceToNat, Int.reduceNeg, reduceIte, reduceCtorEq, SD, SPx, SAx, h0, h1, hm, hn1, hq, hr, wr_nat]
       repeat (refine ⟨by decide +kernel, ?_⟩)
       refine hK _ _ ?_
       clear hK K))
  refine W_loopg (fun (k : Nat) s => s.dfs = [] ∧ s.m.out.length = 0 ∧ s.t.get 0 = vn n ∧ s.t.get 1 = vn d ∧ s.t.get 4 = .ptr ⟨0, 4, 0, 1⟩ 0 0 ∧ s.t.get 5 = .ptr ⟨0, 5, 0, 1⟩ 0 0 ∧ s.t.get 7 = vn (60 ^ k / n) ∧ s.t.get 8 = vn (60 ^ k % n) ∧ s.t.get 9 = vn k ∧
    s.m.row ⟨0, 4, 0, 1⟩ = some ⟨1, 54, false, false, [.agg [.rs ⟨0, 4, 1, 1⟩ 0 0 0, vi 0]]⟩ ∧ s.m.row ⟨0, 5, 0, 1⟩ = some ⟨1, 54, false, false, [.agg [.rs ⟨0, 5, 1, 1⟩ 0 0 0, vi 0]]⟩ ∧
    k ≤ 16 ∧ nearF n B (16 - k) k = nearK n B ∧ 60 ^ k / n < 200000000000000) (fun k => 16 - k) 0 ?_ ?_
  · refine ⟨hd, ?_, ?_, ?_, ?_, ?_, ?_, ?_, ?_, ?_, ?_, by omega, rfl, by omega⟩
    all_goals (try simp (maxSteps := 2000000) (disch := omega) only [SO, ofValue, ofCell, Nat.reduceBEq, Nat.reduceEqDiff, ↓reduceIte, and_self, and_true, true_and, Mem.newRef_eq, Mem.gen_nil, Mem.gen_new, Mem.gen_set, Mem.row_new, Mem.row_setW, Mem.new_out, Mem.set_out, List.length_nil, List.length_cons, Nat.zero_le, Nat.le_refl, Nat.reduceLeDiff, Nat.reduceAdd, and_self, and_true, true_and, Nat.zero_add, h0, h1, hm])
    all_goals rfl
  clear hd ho h0 h1 hm hq hr hq1 h
  rintro k s ⟨hd, ho, h0, h1, h4, h5, h7, h8, h9, r4, r5, hk, hK, hmb0⟩
  repeat (first
    | with_reducible first | refine W_seq ?_ | refine W_skip ?_ | refine W_label ?_ | refine W_ret ?_ | refine W_exit ?_ | refine W_block ?_ | refine thenI ?_ | refine thenRet ?_ | refine thenExit ?_ | refine blockRet ?_ | refine blockI ?_ | refine blockExit ?_ | refine blockExitNe rfl ?_
    | (with_reducible refine W_region_k ?_
       intro K hK
       simp (maxSteps := 2000000) (disch := omega) only [SA, ofValue, ofCell, bin, intBin, un, idx, Go.Ev.builtin, calleeOf, V.isNilS, V.depthOk, depth1, V.ok1, V.isAgg, V.cells, isConst, Nat.reduceBEq, Nat.reduceEqDiff, ↓reduceIte, Nat.reduceLeDiff, Nat.reduceAdd, Nat.reduceMul, Nat.reduceSub, Nat.reduceLT, Int.reduceAdd, Int.reduceSub, Int.reduceMul, Int.reduceLT, Int.reduceLE, Int.reduceToNat, Int.reduceNeg, reduceIte, reduceCtorEq, SPx, SAx, h0, h1, h7, hsub, co106, sr106, q1.iff, wr_nat]
       refine hK _ _ ?_
       clear hK K)
    | (refine W_draw_k (by decide +kernel) ?_
       intro K hK
       simp (maxSteps := 2000000) (disch := omega) only [SA, ofValue, ofCell, bin, intBin, un, idx, Go.Ev.builtin, calleeOf, V.isNilS, V.depthOk, depth1, V.ok1, V.isAgg, V.cells, isConst, Nat.reduceBEq, Nat.reduceEqDiff, ↓reduceIte, Nat.reduceLeDiff, Nat.reduceAdd, Nat.reduceMul, Nat.reduceSub, Nat.reduceLT, Int.reduceAdd, Int.reduceSub, Int.reduceMul, Int.reduceLT, Int.reduceLE, Int.reduceToNat, Int.reduceNeg, reduceIte, reduceCtorEq, SD, SPx, SAx, h0, h1, h7, hsub, co106, sr106, q1.iff, wr_nat]
       repeat (refine ⟨by decide +kernel, ?_⟩)
       refine hK _ _ ?_
       clear hK K))
  obtain ⟨s1, s2⟩ := near_step n k hn0
  have hrn : 60 ^ k % n < n := Nat.mod_lt _ hn0
  with_reducible refine W_cond2 (by simp only [SO, ofValue, ofCell, Nat.reduceBEq, Nat.reduceEqDiff, ↓reduceIte]; rfl) (fun h => ?_) (fun h => ?_)
  · have hlt : 60 ^ k / n < B := by have := of_decide_eq_true h; omega
    have hk16 : k < 16 := by
      rcases Nat.lt_or_ge k 16 with h' | h'
      · exact h'
      · exfalso
        have e1 : (60 : Nat) ^ 16 ≤ 60 ^ k := Nat.pow_le_pow_right (by decide) h'
        have e2 : 60 ^ 16 / n ≤ 60 ^ k / n := Nat.div_le_div_right e1
        have e3 : 60 ^ 16 / 1099511627776 ≤ 60 ^ 16 / n := Nat.div_le_div_left hn hn0
        have e4 : (60 : Nat) ^ 7 ≤ 60 ^ 16 / 1099511627776 := by decide
        omega
    have hqb : 60 ^ k % n * 60 / n < 60 := Nat.div_lt_of_lt_mul (by omega)
    have hmb : 60 ^ k / n < 2799360000000 := Nat.lt_of_lt_of_le hlt (Nat.le_trans hB (by decide))
    clear hmb0
    rw [show 16 - k = (16 - (k + 1)) + 1 by omega, nearF, if_pos hlt] at hK
    generalize 60 ^ k / n = m at *
    generalize 60 ^ k % n = w at *
    generalize hu : w * 60 / n = u at *
    clear hB hBe q1
    repeat (first
      | with_reducible first | refine W_seq ?_ | refine W_skip ?_ | refine W_label ?_ | refine W_ret ?_ | refine W_exit ?_ | refine W_block ?_ | refine thenI ?_ | refine thenRet ?_ | refine thenExit ?_ | refine blockRet ?_ | refine blockI ?_ | refine blockExit ?_ | refine blockExitNe rfl ?_
      | (with_reducible refine W_region_k ?_
         intro K hK
         simp (maxSteps := 2000000) (disch := omega) only [SA, ofValue, ofCell, bin, intBin, un, idx, Go.Ev.builtin, calleeOf, V.isNilS, V.depthOk, depth1, V.ok1, V.isAgg, V.cells, isConst, Nat.reduceBEq, Nat.reduceEqDiff, ↓reduceIte, Nat.reduceLeDiff, Nat.reduceAdd, Nat.reduceMul, Nat.reduceSub, Nat.reduceLT, Int.reduceAdd, Int.reduceSub, Int.reduceMul, Int.reduceLT, Int.reduceLE, Int.reduceToNat, Int.reduceNeg, reduceIte, reduceCtorEq, SPx, SAx, SCx, Int.reduceEq, h0, h1, h4, h5, h7, h8, h9, hn1, hu, r4, r5]
         refine hK _ _ ?_
         clear hK K)
      | (refine W_draw_k (by decide +kernel) ?_
         intro K hK
         simp (maxSteps := 2000000) (disch := omega) only [SA, ofValue, ofCell, bin, intBin, un, idx, Go.Ev.builtin, calleeOf, V.isNilS, V.depthOk, depth1, V.ok1, V.isAgg, V.cells, isConst, Nat.reduceBEq, Nat.reduceEqDiff, ↓reduceIte, Nat.reduceLeDiff, Nat.reduceAdd, Nat.reduceMul, Nat.reduceSub, Nat.reduceLT, Int.reduceAdd, Int.reduceSub, Int.reduceMul, Int.reduceLT, Int.reduceLE, Int.reduceToNat, Int.reduceNeg, reduceIte, reduceCtorEq, SD, SPx, SAx, SCx, Int.reduceEq, h0, h1, h4, h5, h7, h8, h9, hn1, hu, r4, r5]
         repeat (refine ⟨by decide +kernel, ?_⟩)
         refine hK _ _ ?_
         clear hK K))
    refine ⟨k + 1, ⟨hd, ?_, ?_, ?_, ?_, ?_, ?_, ?_, ?_, ?_, ?_, by omega, hK, ?_⟩, by omega⟩
    all_goals (try simp (maxSteps := 2000000) (disch := omega) only [SO, ofValue, ofCell, Nat.reduceBEq, Nat.reduceEqDiff, ↓reduceIte, and_self, and_true, true_and, Mem.newRef_eq, Mem.gen_nil, Mem.gen_new, Mem.gen_set, Mem.row_new, Mem.row_setW, Mem.new_out, Mem.set_out, List.length_nil, List.length_cons, Nat.zero_le, Nat.le_refl, Nat.reduceLeDiff, Nat.reduceAdd, and_self, and_true, true_and, Nat.zero_add, ho, h0, h1, h4, h5, r4, r5, s1, s2])
    omega
  · have hge : ¬ 60 ^ k / n < B := by have := of_decide_eq_false h; omega
    have hKk : nearK n B = k := by
      rw [← hK]
      cases hf : 16 - k with
      | zero => rfl
      | succ f => rw [nearF, if_neg hge]
    rw [hKk]
    have hmb := hmb0
    clear hmb0
    have hneg : (0 : Int) - (k : Int) = -(k : Int) := by omega
    have q2 := P107 (60 ^ k / n) (-(k : Int)) (by omega) (by omega) (by omega)
    have q3 := P107 (60 ^ k / n + 1) (-(k : Int)) (by omega) (by omega) (by omega)
    generalize 60 ^ k / n = m at *
    generalize 60 ^ k % n = w at *
    clear hB hBe q1 s1 s2
    unfold shV at q2 q3
    repeat (first
      | with_reducible first | refine W_seq ?_ | refine W_skip ?_ | refine W_label ?_ | refine W_ret ?_ | refine W_exit ?_ | refine W_block ?_ | refine thenI ?_ | refine thenRet ?_ | refine thenExit ?_ | refine blockRet ?_ | refine blockI ?_ | refine blockExit ?_ | refine blockExitNe rfl ?_
      | (with_reducible refine W_region_k ?_
         intro K hK
         simp (maxSteps := 2000000) (disch := omega) only [SA, ofValue, ofCell, bin, intBin, un, idx, Go.Ev.builtin, calleeOf, V.isNilS, V.depthOk, depth1, V.ok1, V.isAgg, V.cells, isConst, Nat.reduceBEq, Nat.reduceEqDiff, ↓reduceIte, Nat.reduceLeDiff, Nat.reduceAdd, Nat.reduceMul, Nat.reduceSub, Nat.reduceLT, Int.reduceAdd, Int.reduceSub, Int.reduceMul, Int.reduceLT, Int.reduceLE, Int.reduceToNat, Int.reduceNeg, reduceIte, reduceCtorEq, SPx, SAx, SCx, Int.reduceEq, hneg, wr_i64, h0, h1, h4, h5, h7, h8, h9, r4, r5, ho, co107, sr107, q2.iff, q3.iff, rowsOf_aggl, ptrs_aggl]
         refine hK _ _ ?_
         clear hK K)
      | (refine W_draw_k (by decide +kernel) ?_
         intro K hK
         simp (maxSteps := 2000000) (disch := omega) only [SA, ofValue, ofCell, bin, intBin, un, idx, Go.Ev.builtin, calleeOf, V.isNilS, V.depthOk, depth1, V.ok1, V.isAgg, V.cells, isConst, Nat.reduceBEq, Nat.reduceEqDiff, ↓reduceIte, Nat.reduceLeDiff, Nat.reduceAdd, Nat.reduceMul, Nat.reduceSub, Nat.reduceLT, Int.reduceAdd, Int.reduceSub, Int.reduceMul, Int.reduceLT, Int.reduceLE, Int.reduceToNat, Int.reduceNeg, reduceIte, reduceCtorEq, SD, SPx, SAx, SCx, Int.reduceEq, hneg, wr_i64, h0, h1, h4, h5, h7, h8, h9, r4, r5, ho, co107, sr107, q2.iff, q3.iff, rowsOf_aggl, ptrs_aggl]
         repeat (refine ⟨by decide +kernel, ?_⟩)
         refine hK _ _ ?_
         clear hK K))
    with_reducible refine W_cond2 (by simp only [SO, ofValue, ofCell, Nat.reduceBEq, Nat.reduceEqDiff, ↓reduceIte]; rfl) (fun h => ?_) (fun h => ?_)
    · have h : 0 < w := by have := of_decide_eq_true h; omega
      repeat (first
        | with_reducible first | refine W_seq ?_ | refine W_skip ?_ | refine W_label ?_ | refine W_ret ?_ | refine W_exit ?_ | refine W_block ?_ | refine thenI ?_ | refine thenRet ?_ | refine thenExit ?_ | refine blockRet ?_ | refine blockI ?_ | refine blockExit ?_ | refine blockExitNe rfl ?_
        | (with_reducible refine W_region_k ?_
           intro K hK
           simp (maxSteps := 2000000) (disch := omega) only [SA, ofValue, ofCell, bin, intBin, un, idx, Go.Ev.builtin, calleeOf, V.isNilS, V.depthOk, depth1, V.ok1, V.isAgg, V.cells, isConst, Nat.reduceBEq, Nat.reduceEqDiff, ↓reduceIte, Nat.reduceLeDiff, Nat.reduceAdd, Nat.reduceMul, Nat.reduceSub, Nat.reduceLT, Int.reduceAdd, Int.reduceSub, Int.reduceMul, Int.reduceLT, Int.reduceLE, Int.reduceToNat, Int.reduceNeg, reduceIte, reduceCtorEq, SPx, SAx, SCx, Int.reduceEq, hneg, wr_i64, h0, h1, h4, h5, h7, h8, h9, r4, r5, ho, co107, sr107, q2.iff, q3.iff, rowsOf_aggl, ptrs_aggl]
           refine hK _ _ ?_
           clear hK K)
        | (refine W_draw_k (by decide +kernel) ?_
           intro K hK
           simp (maxSteps := 2000000) (disch := omega) only [SA, ofValue, ofCell, bin, intBin, un, idx, Go.Ev.builtin, calleeOf, V.isNilS, V.depthOk, depth1, V.ok1, V.isAgg, V.cells, isConst, Nat.reduceBEq, Nat.reduceEqDiff, ↓reduceIte, Nat.reduceLeDiff, Nat.reduceAdd, Nat.reduceMul, Nat.reduceSub, Nat.reduceLT, Int.reduceAdd, Int.reduceSub, Int.reduceMul, Int.reduceLT, Int.reduceLE, Int.reduceToNat, Int.reduceNeg, reduceIte, reduceCtorEq, SD, SPx, SAx, SCx, Int.reduceEq, hneg, wr_i64, h0, h1, h4, h5, h7, h8, h9, r4, r5, ho, co107, sr107, q2.iff, q3.iff, rowsOf_aggl, ptrs_aggl]
           repeat (refine ⟨by decide +kernel, ?_⟩)
           refine hK _ _ ?_
           clear hK K))
      rw [if_pos h]
      refine end_ret hd (by simp (maxSteps := 2000000) (disch := omega) only [Tryd.results44, resVars, resVar, SA, ofValue, ofCell, bin, intBin, un, idx, Go.Ev.builtin, calleeOf, V.isNilS, V.depthOk, depth1, V.ok1, V.isAgg, V.cells, isConst, Nat.reduceBEq, Nat.reduceEqDiff, ↓reduceIte, Nat.reduceLeDiff, Nat.reduceAdd, Nat.reduceMul, Nat.reduceSub, Nat.reduceLT, Int.reduceAdd, Int.reduceSub, Int.reduceMul, Int.reduceLT, Int.reduceLE, Int.reduceToNat, Int.reduceNeg, reduceIte, reduceCtorEq, SPx, SAx, SSx, appendTo, elemsOf, h4, h5, r4, r5, ho]; rfl) ?_
      simp (maxSteps := 2000000) (disch := omega) only [SA, ofValue, ofCell, bin, intBin, un, idx, Go.Ev.builtin, calleeOf, V.isNilS, V.depthOk, depth1, V.ok1, V.isAgg, V.cells, isConst, Nat.reduceBEq, Nat.reduceEqDiff, ↓reduceIte, Nat.reduceLeDiff, Nat.reduceAdd, Nat.reduceMul, Nat.reduceSub, Nat.reduceLT, Int.reduceAdd, Int.reduceSub, Int.reduceMul, Int.reduceLT, Int.reduceLE, Int.reduceToNat, Int.reduceNeg, reduceIte, reduceCtorEq, true_and, and_true, Nat.zero_add, Nat.le_refl, if_true, ↓reduceIte, resOf, X_own, mv_int, mv_bool, mv_str, mv_sl, mv_nilS, mv_tup, mv2s_nil, mv2s_cons, mv2_int, mv2_bool, mv2_str, mv2_sl, mv2_nilS, Option.map_some, vi, vn, SPx, SAx, SSx, appendTo, elemsOf, h4, h5, r4, r5, ho]
      rfl
    · have h : ¬ 0 < w := by have := of_decide_eq_false h; omega
      repeat (first
        | with_reducible first | refine W_seq ?_ | refine W_skip ?_ | refine W_label ?_ | refine W_ret ?_ | refine W_exit ?_ | refine W_block ?_ | refine thenI ?_ | refine thenRet ?_ | refine thenExit ?_ | refine blockRet ?_ | refine blockI ?_ | refine blockExit ?_ | refine blockExitNe rfl ?_
        | (with_reducible refine W_region_k ?_
           intro K hK
           simp (maxSteps := 2000000) (disch := omega) only [SA, ofValue, ofCell, bin, intBin, un, idx, Go.Ev.builtin, calleeOf, V.isNilS, V.depthOk, depth1, V.ok1, V.isAgg, V.cells, isConst, Nat.reduceBEq, Nat.reduceEqDiff, ↓reduceIte, Nat.reduceLeDiff, Nat.reduceAdd, Nat.reduceMul, Nat.reduceSub, Nat.reduceLT, Int.reduceAdd, Int.reduceSub, Int.reduceMul, Int.reduceLT, Int.reduceLE, Int.reduceToNat, Int.reduceNeg, reduceIte, reduceCtorEq, SPx, SAx, SCx, Int.reduceEq, hneg, wr_i64, h0, h1, h4, h5, h7, h8, h9, r4, r5, ho, co107, sr107, q2.iff, q3.iff, rowsOf_aggl, ptrs_aggl]
           refine hK _ _ ?_
           clear hK K)
        | (refine W_draw_k (by decide +kernel) ?_
           intro K hK
           simp (maxSteps := 2000000) (disch := omega) only [SA, ofValue, ofCell, bin, intBin, un, idx, Go.Ev.builtin, calleeOf, V.isNilS, V.depthOk, depth1, V.ok1, V.isAgg, V.cells, isConst, Nat.reduceBEq, Nat.reduceEqDiff, ↓reduceIte, Nat.reduceLeDiff, Nat.reduceAdd, Nat.reduceMul, Nat.reduceSub, Nat.reduceLT, Int.reduceAdd, Int.reduceSub, Int.reduceMul, Int.reduceLT, Int.reduceLE, Int.reduceToNat, Int.reduceNeg, reduceIte, reduceCtorEq, SD, SPx, SAx, SCx, Int.reduceEq, hneg, wr_i64, h0, h1, h4, h5, h7, h8, h9, r4, r5, ho, co107, sr107, q2.iff, q3.iff, rowsOf_aggl, ptrs_aggl]
           repeat (refine ⟨by decide +kernel, ?_⟩)
           refine hK _ _ ?_
           clear hK K))
      rw [if_neg h]
      refine end_ret hd (by simp (maxSteps := 2000000) (disch := omega) only [Tryd.results44, resVars, resVar, SA, ofValue, ofCell, bin, intBin, un, idx, Go.Ev.builtin, calleeOf, V.isNilS, V.depthOk, depth1, V.ok1, V.isAgg, V.cells, isConst, Nat.reduceBEq, Nat.reduceEqDiff, ↓reduceIte, Nat.reduceLeDiff, Nat.reduceAdd, Nat.reduceMul, Nat.reduceSub, Nat.reduceLT, Int.reduceAdd, Int.reduceSub, Int.reduceMul, Int.reduceLT, Int.reduceLE, Int.reduceToNat, Int.reduceNeg, reduceIte, reduceCtorEq, SPx, SAx, SSx, appendTo, elemsOf, h4, h5, r4, r5, ho]; rfl) ?_
      simp (maxSteps := 2000000) (disch := omega) only [SA, ofValue, ofCell, bin, intBin, un, idx, Go.Ev.builtin, calleeOf, V.isNilS, V.depthOk, depth1, V.ok1, V.isAgg, V.cells, isConst, Nat.reduceBEq, Nat.reduceEqDiff, ↓reduceIte, Nat.reduceLeDiff, Nat.reduceAdd, Nat.reduceMul, Nat.reduceSub, Nat.reduceLT, Int.reduceAdd, Int.reduceSub, Int.reduceMul, Int.reduceLT, Int.reduceLE, Int.reduceToNat, Int.reduceNeg, reduceIte, reduceCtorEq, true_and, and_true, Nat.zero_add, Nat.le_refl, if_true, ↓reduceIte, resOf, X_own, mv_int, mv_bool, mv_str, mv_sl, mv_nilS, mv_tup, mv2s_nil, mv2s_cons, mv2_int, mv2_bool, mv2_str, mv2_sl, mv2_nilS, Option.map_some, vi, vn, SPx, SAx, SSx, appendTo, elemsOf, h4, h5, r4, r5, ho]
      rfl
end Go.Proofs.YtpocekfifokndaaDoor
namespace Go.Proofs.YtpocekfifokndaaDoor
open Go Go.Ev Go.Pl
set_option maxRecDepth 100000
set_option maxHeartbeats 4000000
theorem wr_u64 {n : Nat} (h : n < 18446744073709551616) : wr .u64 (n : Int) = (n : Int) := by
  simp only [wr, IntKind.wrap]
  have e : IntKind.u64.signed = false := by decide
  have e2 : IntKind.u64.bits = 64 := by decide
  rw [e, e2, Bool.false_and, if_neg (by decide)]
  omega
abbrev vu (n : Nat) : V := .int .u64 (n : Int)
theorem P142 (n : Int) (h1 : -4611686018427387904 < n) (h2 : n < 4611686018427387904) : Ans X 142 [vi n] (.ret (vu n.natAbs)) := by
  refine call_of_X (fn := Tryd.f142) 1 Tryd.func142 rfl (by decide +kernel) rfl ?_ ?_ ?_ ?_
  · rfl
  · exact fun _ => rfl
  · intro v hv; injection hv with hv; subst hv; rfl
  intro s hs hd ho
  have h0 : s.t.get 0 = vi n := by subst hs; rfl
  clear hs
  repeat (first
    | with_reducible first | refine W_seq ?_ | refine W_skip ?_ | refine W_label ?_ | refine W_ret ?_ | refine W_exit ?_ | refine W_block ?_ | refine thenI ?_ | refine thenRet ?_ | refine thenExit ?_ | refine blockRet ?_ | refine blockI ?_ | refine blockExit ?_ | refine blockExitNe rfl ?_
    | (with_reducible refine W_region_k ?_
       intro K hK
       simp (maxSteps := 2000000) (disch := omega) only [SA, ofValue, ofCell, bin, intBin, un, idx, Go.Ev.builtin, calleeOf, V.isNilS, V.depthOk, depth1, V.ok1, V.isAgg, V.cells, isConst, Nat.reduceBEq, Nat.reduceEqDiff, ↓reduceIte, Nat.reduceLeDiff, Nat.reduceAdd, Nat.reduceMul, Nat.reduceSub, Nat.reduceLT, Int.reduceAdd, Int.reduceSub, Int.reduceMul, Int.reduceLT, Int.reduceLE, Int.reduceToNat, Int.reduceNeg, reduceIte, reduceCtorEq, SPx, h0]
       refine hK _ _ ?_
       clear hK K)
    | (refine W_draw_k (by decide +kernel) ?_
       intro K hK
       simp (maxSteps := 2000000) (disch := omega) only [SA, ofValue, ofCell, bin, intBin, un, idx, Go.Ev.builtin, calleeOf, V.isNilS, V.depthOk, depth1, V.ok1, V.isAgg, V.cells, isConst, Nat.reduceBEq, Nat.reduceEqDiff, ↓reduceIte, Nat.reduceLeDiff, Nat.reduceAdd, Nat.reduceMul, Nat.reduceSub, Nat.reduceLT, Int.reduceAdd, Int.reduceSub, Int.reduceMul, Int.reduceLT, Int.reduceLE, Int.reduceToNat, Int.reduceNeg, reduceIte, reduceCtorEq, SD, SPx, h0]
       repeat (refine ⟨by decide +kernel, ?_⟩)
       refine hK _ _ ?_
       clear hK K))
  with_reducible refine W_cond2 (by simp only [SO, ofValue, ofCell, Nat.reduceBEq, Nat.reduceEqDiff, ↓reduceIte]; rfl) (fun h => ?_) (fun h => ?_)
  · have h := of_decide_eq_true h
    have e1 : (0 : Int) - (n + 1) = ((n.natAbs - 1 : Nat) : Int) := by omega
    have e2 : ((n.natAbs - 1 : Nat) : Int) + 1 = (n.natAbs : Int) := by omega
    repeat (first
      | with_reducible first | refine W_seq ?_ | refine W_skip ?_ | refine W_label ?_ | refine W_ret ?_ | refine W_exit ?_ | refine W_block ?_ | refine thenI ?_ | refine thenRet ?_ | refine thenExit ?_ | refine blockRet ?_ | refine blockI ?_ | refine blockExit ?_ | refine blockExitNe rfl ?_
      | (with_reducible refine W_region_k ?_
         intro K hK
         simp (maxSteps := 2000000) (disch := omega) only [SA, ofValue, ofCell, bin, intBin, un, idx, Go.Ev.builtin, calleeOf, V.isNilS, V.depthOk, depth1, V.ok1, V.isAgg, V.cells, isConst, Nat.reduceBEq, Nat.reduceEqDiff, ↓reduceIte, Nat.reduceLeDiff, Nat.reduceAdd, Nat.reduceMul, Nat.reduceSub, Nat.reduceLT, Int.reduceAdd, Int.reduceSub, Int.reduceMul, Int.reduceLT, Int.reduceLE, Int.reduceToNat, Int.reduceNeg, reduceIte, reduceCtorEq, SPx, h0, wr_i64, wr_nat, wr_u64, e1, e2]
         refine hK _ _ ?_
         clear hK K)
      | (refine W_draw_k (by decide +kernel) ?_
         intro K hK
         simp (maxSteps := 2000000) (disch := omega) only [SA, ofValue, ofCell, bin, intBin, un, idx, Go.Ev.builtin, calleeOf, V.isNilS, V.depthOk, depth1, V.ok1, V.isAgg, V.cells, isConst, Nat.reduceBEq, Nat.reduceEqDiff, ↓reduceIte, Nat.reduceLeDiff, Nat.reduceAdd, Nat.reduceMul, Nat.reduceSub, Nat.reduceLT, Int.reduceAdd, Int.reduceSub, Int.reduceMul, Int.reduceLT, Int.reduceLE, Int.reduceToNat, Int.reduceNeg, reduceIte, reduceCtorEq, SD, SPx, h0, wr_i64, wr_nat, wr_u64, e1, e2]
         repeat (refine ⟨by decide +kernel, ?_⟩)
         refine hK _ _ ?_
         clear hK K))
    refine end_ret hd (by simp (maxSteps := 2000000) (disch := omega) only [Tryd.results142, resVars, resVar, SA, ofValue, ofCell, bin, intBin, un, idx, Go.Ev.builtin, calleeOf, V.isNilS, V.depthOk, depth1, V.ok1, V.isAgg, V.cells, isConst, Nat.reduceBEq, Nat.reduceEqDiff, ↓reduceIte, Nat.reduceLeDiff, Nat.reduceAdd, Nat.reduceMul, Nat.reduceSub, Nat.reduceLT, Int.reduceAdd, Int.reduceSub, Int.reduceMul, Int.reduceLT, Int.reduceLE, Int.reduceToNat, Int.reduceNeg, reduceIte, reduceCtorEq, SPx]; rfl) ?_
    simp (maxSteps := 2000000) (disch := omega) only [SA, ofValue, ofCell, bin, intBin, un, idx, Go.Ev.builtin, calleeOf, V.isNilS, V.depthOk, depth1, V.ok1, V.isAgg, V.cells, isConst, Nat.reduceBEq, Nat.reduceEqDiff, ↓reduceIte, Nat.reduceLeDiff, Nat.reduceAdd, Nat.reduceMul, Nat.reduceSub, Nat.reduceLT, Int.reduceAdd, Int.reduceSub, Int.reduceMul, Int.reduceLT, Int.reduceLE, Int.reduceToNat, Int.reduceNeg, reduceIte, reduceCtorEq, true_and, and_true, Nat.zero_add, Nat.le_refl, if_true, ↓reduceIte, resOf, X_own, mv_int, mv_bool, mv_str, mv_sl, mv_nilS, mv_tup, mv2s_nil, mv2s_cons, mv2_int, mv2_bool, mv2_str, mv2_sl, mv2_nilS, Option.map_some, vi, vn, SPx]
  · have h := of_decide_eq_false h
    have e1 : n = (n.natAbs : Int) := by omega
    rw [e1] at h0
    repeat (first
      | with_reducible first | refine W_seq ?_ | refine W_skip ?_ | refine W_label ?_ | refine W_ret ?_ | refine W_exit ?_ | refine W_block ?_ | refine thenI ?_ | refine thenRet ?_ | refine thenExit ?_ | refine blockRet ?_ | refine blockI ?_ | refine blockExit ?_ | refine blockExitNe rfl ?_
      | (with_reducible refine W_region_k ?_
         intro K hK
         simp (maxSteps := 2000000) (disch := omega) only [SA, ofValue, ofCell, bin, intBin, un, idx, Go.Ev.builtin, calleeOf, V.isNilS, V.depthOk, depth1, V.ok1, V.isAgg, V.cells, isConst, Nat.reduceBEq, Nat.reduceEqDiff, ↓reduceIte, Nat.reduceLeDiff, Nat.reduceAdd, Nat.reduceMul, Nat.reduceSub, Nat.reduceLT, Int.reduceAdd, Int.reduceSub, Int.reduceMul, Int.reduceLT, Int.reduceLE, Int.reduceToNat, Int.reduceNeg, reduceIte, reduceCtorEq, SPx, h0, wr_nat, wr_u64]
         refine hK _ _ ?_
         clear hK K)
      | (refine W_draw_k (by decide +kernel) ?_
         intro K hK
         simp (maxSteps := 2000000) (disch := omega) only [SA, ofValue, ofCell, bin, intBin, un, idx, Go.Ev.builtin, calleeOf, V.isNilS, V.depthOk, depth1, V.ok1, V.isAgg, V.cells, isConst, Nat.reduceBEq, Nat.reduceEqDiff, ↓reduceIte, Nat.reduceLeDiff, Nat.reduceAdd, Nat.reduceMul, Nat.reduceSub, Nat.reduceLT, Int.reduceAdd, Int.reduceSub, Int.reduceMul, Int.reduceLT, Int.reduceLE, Int.reduceToNat, Int.reduceNeg, reduceIte, reduceCtorEq, SD, SPx, h0, wr_nat, wr_u64]
         repeat (refine ⟨by decide +kernel, ?_⟩)
         refine hK _ _ ?_
         clear hK K))
    refine end_ret hd (by simp (maxSteps := 2000000) (disch := omega) only [Tryd.results142, resVars, resVar, SA, ofValue, ofCell, bin, intBin, un, idx, Go.Ev.builtin, calleeOf, V.isNilS, V.depthOk, depth1, V.ok1, V.isAgg, V.cells, isConst, Nat.reduceBEq, Nat.reduceEqDiff, ↓reduceIte, Nat.reduceLeDiff, Nat.reduceAdd, Nat.reduceMul, Nat.reduceSub, Nat.reduceLT, Int.reduceAdd, Int.reduceSub, Int.reduceMul, Int.reduceLT, Int.reduceLE, Int.reduceToNat, Int.reduceNeg, reduceIte, reduceCtorEq, SPx]; rfl) ?_
    simp (maxSteps := 2000000) (disch := omega) only [SA, ofValue, ofCell, bin, intBin, un, idx, Go.Ev.builtin, calleeOf, V.isNilS, V.depthOk, depth1, V.ok1, V.isAgg, V.cells, isConst, Nat.reduceBEq, Nat.reduceEqDiff, ↓reduceIte, Nat.reduceLeDiff, Nat.reduceAdd, Nat.reduceMul, Nat.reduceSub, Nat.reduceLT, Int.reduceAdd, Int.reduceSub, Int.reduceMul, Int.reduceLT, Int.reduceLE, Int.reduceToNat, Int.reduceNeg, reduceIte, reduceCtorEq, true_and, and_true, Nat.zero_add, Nat.le_refl, if_true, ↓reduceIte, resOf, X_own, mv_int, mv_bool, mv_str, mv_sl, mv_nilS, mv_tup, mv2s_nil, mv2s_cons, mv2_int, mv2_bool, mv2_str, mv2_sl, mv2_nilS, Option.map_some, vi, vn, SPx]
theorem P141 (x y : Nat) (hx : x < 4611686018427387905) (hy : y < 4611686018427387905) : Ans X 141 [vu x, vu y] (.ret (vu (Nat.gcd x y))) := by
  refine call_of_X (fn := Tryd.f141) 2 Tryd.func141 rfl (by decide +kernel) rfl ?_ ?_ ?_ ?_
  · rfl
  · exact fun _ => rfl
  · intro v hv; injection hv with hv; subst hv; rfl
  intro s hs hd ho
  have h0 : s.t.get 0 = vu x := by subst hs; rfl
  have h1 : s.t.get 1 = vu y := by subst hs; rfl
  clear hs
  repeat (first
    | with_reducible first | refine W_seq ?_ | refine W_skip ?_ | refine W_label ?_ | refine W_ret ?_ | refine W_exit ?_ | refine W_block ?_ | refine thenI ?_ | refine thenRet ?_ | refine thenExit ?_ | refine blockRet ?_ | refine blockI ?_ | refine blockExit ?_ | refine blockExitNe rfl ?_
    | (with_reducible refine W_region_k ?_
       intro K hK
       simp (maxSteps := 2000000) (disch := omega) only [SA, ofValue, ofCell, bin, intBin, un, idx, Go.Ev.builtin, calleeOf, V.isNilS, V.depthOk, depth1, V.ok1, V.isAgg, V.cells, isConst, Nat.reduceBEq, Nat.reduceEqDiff, ↓reduceIte, Nat.reduceLeDiff, Nat.reduceAdd, Nat.reduceMul, Nat.reduceSub, Nat.reduceLT, Int.reduceAdd, Int.reduceSub, Int.reduceMul, Int.reduceLT, Int.reduceLE, Int.reduceToNat, Int.reduceNeg, reduceIte, reduceCtorEq, SPx]
       refine hK _ _ ?_
       clear hK K)
    | (refine W_draw_k (by decide +kernel) ?_
       intro K hK
       simp (maxSteps := 2000000) (disch := omega) only [SA, ofValue, ofCell, bin, intBin, un, idx, Go.Ev.builtin, calleeOf, V.isNilS, V.depthOk, depth1, V.ok1, V.isAgg, V.cells, isConst, Nat.reduceBEq, Nat.reduceEqDiff, ↓reduceIte, Nat.reduceLeDiff, Nat.reduceAdd, Nat.reduceMul, Nat.reduceSub, Nat.reduceLT, Int.reduceAdd, Int.reduceSub, Int.reduceMul, Int.reduceLT, Int.reduceLE, Int.reduceToNat, Int.reduceNeg, reduceIte, reduceCtorEq, SD, SPx]
       repeat (refine ⟨by decide +kernel, ?_⟩)
       refine hK _ _ ?_
       clear hK K))
  refine W_loopg (fun (w : Nat × Nat) s => s.dfs = [] ∧ s.m.out.length = 0 ∧ s.t.get 0 = vu w.1 ∧ s.t.get 1 = vu w.2 ∧ Nat.gcd x y = Nat.gcd w.1 w.2) (fun w => w.2) (x, y) ?_ ?_
  · refine ⟨hd, ?_, ?_, ?_, rfl⟩
    all_goals (try simp (maxSteps := 2000000) (disch := omega) only [SO, ofValue, ofCell, Nat.reduceBEq, Nat.reduceEqDiff, ↓reduceIte, and_self, and_true, true_and, Mem.newRef_eq, Mem.gen_nil, Mem.gen_new, Mem.gen_set, Mem.row_new, Mem.row_setW, Mem.new_out, Mem.set_out, List.length_nil, List.length_cons, Nat.zero_le, Nat.le_refl, Nat.reduceLeDiff, Nat.reduceAdd, and_self, and_true, true_and, Nat.zero_add, h0, h1, ho])
  clear hd h0 h1 ho hx hy
  rintro ⟨u, v⟩ s ⟨hd, ho, h0, h1, hg⟩
  dsimp only at h0 h1 hg
  repeat (first
    | with_reducible first | refine W_seq ?_ | refine W_skip ?_ | refine W_label ?_ | refine W_ret ?_ | refine W_exit ?_ | refine W_block ?_ | refine thenI ?_ | refine thenRet ?_ | refine thenExit ?_ | refine blockRet ?_ | refine blockI ?_ | refine blockExit ?_ | refine blockExitNe rfl ?_
    | (with_reducible refine W_region_k ?_
       intro K hK
       simp (maxSteps := 2000000) (disch := omega) only [SA, ofValue, ofCell, bin, intBin, un, idx, Go.Ev.builtin, calleeOf, V.isNilS, V.depthOk, depth1, V.ok1, V.isAgg, V.cells, isConst, Nat.reduceBEq, Nat.reduceEqDiff, ↓reduceIte, Nat.reduceLeDiff, Nat.reduceAdd, Nat.reduceMul, Nat.reduceSub, Nat.reduceLT, Int.reduceAdd, Int.reduceSub, Int.reduceMul, Int.reduceLT, Int.reduceLE, Int.reduceToNat, Int.reduceNeg, reduceIte, reduceCtorEq, SPx, h0, h1]
       refine hK _ _ ?_
       clear hK K)
    | (refine W_draw_k (by decide +kernel) ?_
       intro K hK
       simp (maxSteps := 2000000) (disch := omega) only [SA, ofValue, ofCell, bin, intBin, un, idx, Go.Ev.builtin, calleeOf, V.isNilS, V.depthOk, depth1, V.ok1, V.isAgg, V.cells, isConst, Nat.reduceBEq, Nat.reduceEqDiff, ↓reduceIte, Nat.reduceLeDiff, Nat.reduceAdd, Nat.reduceMul, Nat.reduceSub, Nat.reduceLT, Int.reduceAdd, Int.reduceSub, Int.reduceMul, Int.reduceLT, Int.reduceLE, Int.reduceToNat, Int.reduceNeg, reduceIte, reduceCtorEq, SD, SPx, h0, h1]
       repeat (refine ⟨by decide +kernel, ?_⟩)
       refine hK _ _ ?_
       clear hK K))
  with_reducible refine W_cond2 (by simp only [SO, ofValue, ofCell, Nat.reduceBEq, Nat.reduceEqDiff, ↓reduceIte]; rfl) (fun h => ?_) (fun h => ?_)
  · have h : v ≠ 0 := by simpa using h
    have hv0 : ¬ ((v : Int) = 0) := by omega
    repeat (first
      | with_reducible first | refine W_seq ?_ | refine W_skip ?_ | refine W_label ?_ | refine W_ret ?_ | refine W_exit ?_ | refine W_block ?_ | refine thenI ?_ | refine thenRet ?_ | refine thenExit ?_ | refine blockRet ?_ | refine blockI ?_ | refine blockExit ?_ | refine blockExitNe rfl ?_
      | (with_reducible refine W_region_k ?_
         intro K hK
         simp (maxSteps := 2000000) (disch := omega) only [SA, ofValue, ofCell, bin, intBin, un, idx, Go.Ev.builtin, calleeOf, V.isNilS, V.depthOk, depth1, V.ok1, V.isAgg, V.cells, isConst, Nat.reduceBEq, Nat.reduceEqDiff, ↓reduceIte, Nat.reduceLeDiff, Nat.reduceAdd, Nat.reduceMul, Nat.reduceSub, Nat.reduceLT, Int.reduceAdd, Int.reduceSub, Int.reduceMul, Int.reduceLT, Int.reduceLE, Int.reduceToNat, Int.reduceNeg, reduceIte, reduceCtorEq, SPx, cast_tmod, h0, h1, hv0, ho]
         refine hK _ _ ?_
         clear hK K)
      | (refine W_draw_k (by decide +kernel) ?_
         intro K hK
         simp (maxSteps := 2000000) (disch := omega) only [SA, ofValue, ofCell, bin, intBin, un, idx, Go.Ev.builtin, calleeOf, V.isNilS, V.depthOk, depth1, V.ok1, V.isAgg, V.cells, isConst, Nat.reduceBEq, Nat.reduceEqDiff, ↓reduceIte, Nat.reduceLeDiff, Nat.reduceAdd, Nat.reduceMul, Nat.reduceSub, Nat.reduceLT, Int.reduceAdd, Int.reduceSub, Int.reduceMul, Int.reduceLT, Int.reduceLE, Int.reduceToNat, Int.reduceNeg, reduceIte, reduceCtorEq, SD, SPx, cast_tmod, h0, h1, hv0, ho]
         repeat (refine ⟨by decide +kernel, ?_⟩)
         refine hK _ _ ?_
         clear hK K))
    refine ⟨(v, u % v), ⟨hd, ?_, ?_, ?_, ?_⟩, Nat.mod_lt _ (by omega)⟩
    all_goals (try simp (maxSteps := 2000000) (disch := omega) only [SO, ofValue, ofCell, Nat.reduceBEq, Nat.reduceEqDiff, ↓reduceIte, and_self, and_true, true_and, Mem.newRef_eq, Mem.gen_nil, Mem.gen_new, Mem.gen_set, Mem.row_new, Mem.row_setW, Mem.new_out, Mem.set_out, List.length_nil, List.length_cons, Nat.zero_le, Nat.le_refl, Nat.reduceLeDiff, Nat.reduceAdd, and_self, and_true, true_and, Nat.zero_add, ho])
    rw [hg, Nat.gcd_comm, Nat.gcd_rec, Nat.gcd_comm]
  · have h : v = 0 := by simpa using h
    subst h
    rw [Nat.gcd_zero_right] at hg
    rw [hg]
    repeat (first
      | with_reducible first | refine W_seq ?_ | refine W_skip ?_ | refine W_label ?_ | refine W_ret ?_ | refine W_exit ?_ | refine W_block ?_ | refine thenI ?_ | refine thenRet ?_ | refine thenExit ?_ | refine blockRet ?_ | refine blockI ?_ | refine blockExit ?_ | refine blockExitNe rfl ?_
      | (with_reducible refine W_region_k ?_
         intro K hK
         simp (maxSteps := 2000000) (disch := omega) only [SA, ofValue, ofCell, bin, intBin, un, idx, Go.Ev.builtin, calleeOf, V.isNilS, V.depthOk, depth1, V.ok1, V.isAgg, V.cells, isConst, Nat.reduceBEq, Nat.reduceEqDiff, ↓reduceIte, Nat.reduceLeDiff, Nat.reduceAdd, Nat.reduceMul, Nat.reduceSub, Nat.reduceLT, Int.reduceAdd, Int.reduceSub, Int.reduceMul, Int.reduceLT, Int.reduceLE, Int.reduceToNat, Int.reduceNeg, reduceIte, reduceCtorEq, SPx, h0]
         refine hK _ _ ?_
         clear hK K)
      | (refine W_draw_k (by decide +kernel) ?_
         intro K hK
         simp (maxSteps := 2000000) (disch := omega) only [SA, ofValue, ofCell, bin, intBin, un, idx, Go.Ev.builtin, calleeOf, V.isNilS, V.depthOk, depth1, V.ok1, V.isAgg, V.cells, isConst, Nat.reduceBEq, Nat.reduceEqDiff, ↓reduceIte, Nat.reduceLeDiff, Nat.reduceAdd, Nat.reduceMul, Nat.reduceSub, Nat.reduceLT, Int.reduceAdd, Int.reduceSub, Int.reduceMul, Int.reduceLT, Int.reduceLE, Int.reduceToNat, Int.reduceNeg, reduceIte, reduceCtorEq, SD, SPx, h0]
         repeat (refine ⟨by decide +kernel, ?_⟩)
         refine hK _ _ ?_
         clear hK K))
    refine end_ret hd (by simp (maxSteps := 2000000) (disch := omega) only [Tryd.results141, resVars, resVar, SA, ofValue, ofCell, bin, intBin, un, idx, Go.Ev.builtin, calleeOf, V.isNilS, V.depthOk, depth1, V.ok1, V.isAgg, V.cells, isConst, Nat.reduceBEq, Nat.reduceEqDiff, ↓reduceIte, Nat.reduceLeDiff, Nat.reduceAdd, Nat.reduceMul, Nat.reduceSub, Nat.reduceLT, Int.reduceAdd, Int.reduceSub, Int.reduceMul, Int.reduceLT, Int.reduceLE, Int.reduceToNat, Int.reduceNeg, reduceIte, reduceCtorEq, SPx]; rfl) ?_
    simp (maxSteps := 2000000) (disch := omega) only [SA, ofValue, ofCell, bin, intBin, un, idx, Go.Ev.builtin, calleeOf, V.isNilS, V.depthOk, depth1, V.ok1, V.isAgg, V.cells, isConst, Nat.reduceBEq, Nat.reduceEqDiff, ↓reduceIte, Nat.reduceLeDiff, Nat.reduceAdd, Nat.reduceMul, Nat.reduceSub, Nat.reduceLT, Int.reduceAdd, Int.reduceSub, Int.reduceMul, Int.reduceLT, Int.reduceLE, Int.reduceToNat, Int.reduceNeg, reduceIte, reduceCtorEq, true_and, and_true, Nat.zero_add, Nat.le_refl, if_true, ↓reduceIte, resOf, X_own, mv_int, mv_bool, mv_str, mv_sl, mv_nilS, mv_tup, mv2s_nil, mv2s_cons, mv2_int, mv2_bool, mv2_str, mv2_sl, mv2_nilS, Option.map_some, vi, vn, SPx]
end Go.Proofs.YtpocekfifokndaaDoor
namespace Go.Proofs.YtpocekfifokndaaDoor
open Go Go.Ev Go.Pl
set_option maxRecDepth 100000
set_option maxHeartbeats 4000000
def isRat (N D : Int) : Bool := decide (1 ≤ D ∧ D ≤ 1048576 ∧ -1099511627776 ≤ N ∧ N ≤ 1099511627776 ∧ Nat.gcd N.natAbs D.natAbs = 1)
theorem rowsOf_agg2 (cs : List V) : rowsOf (.agg cs) = if cs.any V.loose then cs.flatMap rows1 else [] := rfl
theorem P123 (N D : Int) : Ans X 123 [.agg [vi N, vi D]] (.ret (.bool (isRat N D))) := by
  refine call_of_X (fn := Tryd.f123) 1 Tryd.func123 rfl (by decide +kernel) rfl ?_ ?_ ?_ ?_
  · rfl
  · exact fun _ => rfl
  · intro v hv; injection hv with hv; subst hv; rfl
  intro s hs hd ho
  have hm : s.m = ⟨.nil, []⟩ := by subst hs; rfl
  have h0 : s.t.get 0 = .agg [vi N, vi D] := by subst hs; rfl
  clear hs
  by_cases d1 : D ≥ 1
  · by_cases d2 : D ≤ 1048576
    · by_cases d3 : N ≥ -1099511627776
      · by_cases d4 : N ≤ 1099511627776
        · have q1 := P142 N (by omega) (by omega)
          have q2 := P142 D (by omega) (by omega)
          have q3 := P141 N.natAbs D.natAbs (by omega) (by omega)
          repeat (first
            | with_reducible first | refine W_seq ?_ | refine W_skip ?_ | refine W_label ?_ | refine W_ret ?_ | refine W_exit ?_ | refine W_block ?_ | refine thenI ?_ | refine thenRet ?_ | refine thenExit ?_ | refine blockRet ?_ | refine blockI ?_ | refine blockExit ?_ | refine blockExitNe rfl ?_
            | (with_reducible refine W_region_k ?_
               intro K hK
               simp (maxSteps := 2000000) (disch := omega) only [SA, ofValue, ofCell, bin, intBin, un, idx, Go.Ev.builtin, calleeOf, V.isNilS, V.depthOk, depth1, V.ok1, V.isAgg, V.cells, isConst, Nat.reduceBEq, Nat.reduceEqDiff, ↓reduceIte, Nat.reduceLeDiff, Nat.reduceAdd, Nat.reduceMul, Nat.reduceSub, Nat.reduceLT, Int.reduceAdd, Int.reduceSub, Int.reduceMul, Int.reduceLT, Int.reduceLE, Int.reduceToNat, Int.reduceNeg, reduceIte, reduceCtorEq, SPx, SAx, h0, hm, d1, d2, d3, d4, co142, sr142, co141, sr141, q1.iff, q2.iff, q3.iff]
               refine hK _ _ ?_
               clear hK K)
            | (refine W_draw_k (by decide +kernel) ?_
               intro K hK
               simp (maxSteps := 2000000) (disch := omega) only [SA, ofValue, ofCell, bin, intBin, un, idx, Go.Ev.builtin, calleeOf, V.isNilS, V.depthOk, depth1, V.ok1, V.isAgg, V.cells, isConst, Nat.reduceBEq, Nat.reduceEqDiff, ↓reduceIte, Nat.reduceLeDiff, Nat.reduceAdd, Nat.reduceMul, Nat.reduceSub, Nat.reduceLT, Int.reduceAdd, Int.reduceSub, Int.reduceMul, Int.reduceLT, Int.reduceLE, Int.reduceToNat, Int.reduceNeg, reduceIte, reduceCtorEq, SD, SPx, SAx, h0, hm, d1, d2, d3, d4, co142, sr142, co141, sr141, q1.iff, q2.iff, q3.iff]
               repeat (refine ⟨by decide +kernel, ?_⟩)
               refine hK _ _ ?_
               clear hK K))
          refine end_ret hd (by simp (maxSteps := 2000000) (disch := omega) only [Tryd.results123, resVars, resVar, SA, ofValue, ofCell, bin, intBin, un, idx, Go.Ev.builtin, calleeOf, V.isNilS, V.depthOk, depth1, V.ok1, V.isAgg, V.cells, isConst, Nat.reduceBEq, Nat.reduceEqDiff, ↓reduceIte, Nat.reduceLeDiff, Nat.reduceAdd, Nat.reduceMul, Nat.reduceSub, Nat.reduceLT, Int.reduceAdd, Int.reduceSub, Int.reduceMul, Int.reduceLT, Int.reduceLE, Int.reduceToNat, Int.reduceNeg, reduceIte, reduceCtorEq, SPx]; rfl) ?_
          simp (maxSteps := 2000000) (disch := omega) only [SA, ofValue, ofCell, bin, intBin, un, idx, Go.Ev.builtin, calleeOf, V.isNilS, V.depthOk, depth1, V.ok1, V.isAgg, V.cells, isConst, Nat.reduceBEq, Nat.reduceEqDiff, ↓reduceIte, Nat.reduceLeDiff, Nat.reduceAdd, Nat.reduceMul, Nat.reduceSub, Nat.reduceLT, Int.reduceAdd, Int.reduceSub, Int.reduceMul, Int.reduceLT, Int.reduceLE, Int.reduceToNat, Int.reduceNeg, reduceIte, reduceCtorEq, true_and, and_true, Nat.zero_add, Nat.le_refl, if_true, ↓reduceIte, resOf, X_own, mv_int, mv_bool, mv_str, mv_sl, mv_nilS, mv_tup, mv2s_nil, mv2s_cons, mv2_int, mv2_bool, mv2_str, mv2_sl, mv2_nilS, Option.map_some, vi, vn, SPx]
          congr 1
          unfold isRat
          rw [Bool.eq_iff_iff]
          simp
          omega
        · repeat (first
            | with_reducible first | refine W_seq ?_ | refine W_skip ?_ | refine W_label ?_ | refine W_ret ?_ | refine W_exit ?_ | refine W_block ?_ | refine thenI ?_ | refine thenRet ?_ | refine thenExit ?_ | refine blockRet ?_ | refine blockI ?_ | refine blockExit ?_ | refine blockExitNe rfl ?_
            | (with_reducible refine W_region_k ?_
               intro K hK
               simp (maxSteps := 2000000) (disch := omega) only [SA, ofValue, ofCell, bin, intBin, un, idx, Go.Ev.builtin, calleeOf, V.isNilS, V.depthOk, depth1, V.ok1, V.isAgg, V.cells, isConst, Nat.reduceBEq, Nat.reduceEqDiff, ↓reduceIte, Nat.reduceLeDiff, Nat.reduceAdd, Nat.reduceMul, Nat.reduceSub, Nat.reduceLT, Int.reduceAdd, Int.reduceSub, Int.reduceMul, Int.reduceLT, Int.reduceLE, Int.reduceToNat, Int.reduceNeg, reduceIte, reduceCtorEq, SPx, SAx, h0, hm, d1, d2, d3, d4]
               refine hK _ _ ?_
               clear hK K)
            | (refine W_draw_k (by decide +kernel) ?_
               intro K hK
               simp (maxSteps := 2000000) (disch := omega) only [SA, ofValue, ofCell, bin, intBin, un, idx, Go.Ev.builtin, calleeOf, V.isNilS, V.depthOk, depth1, V.ok1, V.isAgg, V.cells, isConst, Nat.reduceBEq, Nat.reduceEqDiff, ↓reduceIte, Nat.reduceLeDiff, Nat.reduceAdd, Nat.reduceMul, Nat.reduceSub, Nat.reduceLT, Int.reduceAdd, Int.reduceSub, Int.reduceMul, Int.reduceLT, Int.reduceLE, Int.reduceToNat, Int.reduceNeg, reduceIte, reduceCtorEq, SD, SPx, SAx, h0, hm, d1, d2, d3, d4]
               repeat (refine ⟨by decide +kernel, ?_⟩)
               refine hK _ _ ?_
               clear hK K))
          refine end_ret hd (by simp (maxSteps := 2000000) (disch := omega) only [Tryd.results123, resVars, resVar, SA, ofValue, ofCell, bin, intBin, un, idx, Go.Ev.builtin, calleeOf, V.isNilS, V.depthOk, depth1, V.ok1, V.isAgg, V.cells, isConst, Nat.reduceBEq, Nat.reduceEqDiff, ↓reduceIte, Nat.reduceLeDiff, Nat.reduceAdd, Nat.reduceMul, Nat.reduceSub, Nat.reduceLT, Int.reduceAdd, Int.reduceSub, Int.reduceMul, Int.reduceLT, Int.reduceLE, Int.reduceToNat, Int.reduceNeg, reduceIte, reduceCtorEq, SPx]; rfl) ?_
          simp (maxSteps := 2000000) (disch := omega) only [SA, ofValue, ofCell, bin, intBin, un, idx, Go.Ev.builtin, calleeOf, V.isNilS, V.depthOk, depth1, V.ok1, V.isAgg, V.cells, isConst, Nat.reduceBEq, Nat.reduceEqDiff, ↓reduceIte, Nat.reduceLeDiff, Nat.reduceAdd, Nat.reduceMul, Nat.reduceSub, Nat.reduceLT, Int.reduceAdd, Int.reduceSub, Int.reduceMul, Int.reduceLT, Int.reduceLE, Int.reduceToNat, Int.reduceNeg, reduceIte, reduceCtorEq, true_and, and_true, Nat.zero_add, Nat.le_refl, if_true, ↓reduceIte, resOf, X_own, mv_int, mv_bool, mv_str, mv_sl, mv_nilS, mv_tup, mv2s_nil, mv2s_cons, mv2_int, mv2_bool, mv2_str, mv2_sl, mv2_nilS, Option.map_some, vi, vn, SPx]
          congr 1
          unfold isRat
          simp; omega
      · repeat (first
          | with_reducible first | refine W_seq ?_ | refine W_skip ?_ | refine W_label ?_ | refine W_ret ?_ | refine W_exit ?_ | refine W_block ?_ | refine thenI ?_ | refine thenRet ?_ | refine thenExit ?_ | refine blockRet ?_ | refine blockI ?_ | refine blockExit ?_ | refine blockExitNe rfl ?_
          | (with_reducible refine W_region_k ?_
             intro K hK
             simp (maxSteps := 2000000) (disch := omega) only [SA, ofValue, ofCell, bin, intBin, un, idx, Go.Ev.builtin, calleeOf, V.isNilS, V.depthOk, depth1, V.ok1, V.isAgg, V.cells, isConst, Nat.reduceBEq, Nat.reduceEqDiff, ↓reduceIte, Nat.reduceLeDiff, Nat.reduceAdd, Nat.reduceMul, Nat.reduceSub, Nat.reduceLT, Int.reduceAdd, Int.reduceSub, Int.reduceMul, Int.reduceLT, Int.reduceLE, Int.reduceToNat, Int.reduceNeg, reduceIte, reduceCtorEq, SPx, SAx, h0, hm, d1, d2, d3]
             refine hK _ _ ?_
             clear hK K)
          | (refine W_draw_k (by decide +kernel) ?_
             intro K hK
             simp (maxSteps := 2000000) (disch := omega) only [SA, ofValue, ofCell, bin, intBin, un, idx, Go.Ev.builtin, calleeOf, V.isNilS, V.depthOk, depth1, V.ok1, V.isAgg, V.cells, isConst, Nat.reduceBEq, Nat.reduceEqDiff, ↓reduceIte, Nat.reduceLeDiff, Nat.reduceAdd, Nat.reduceMul, Nat.reduceSub, Nat.reduceLT, Int.reduceAdd, Int.reduceSub, Int.reduceMul, Int.reduceLT, Int.reduceLE, Int.reduceToNat, Int.reduceNeg, reduceIte, reduceCtorEq, SD, SPx, SAx, h0, hm, d1, d2, d3]
             repeat (refine ⟨by decide +kernel, ?_⟩)
             refine hK _ _ ?_
             clear hK K))
        refine end_ret hd (by simp (maxSteps := 2000000) (disch := omega) only [Tryd.results123, resVars, resVar, SA, ofValue, ofCell, bin, intBin, un, idx, Go.Ev.builtin, calleeOf, V.isNilS, V.depthOk, depth1, V.ok1, V.isAgg, V.cells, isConst, Nat.reduceBEq, Nat.reduceEqDiff, ↓reduceIte, Nat.reduceLeDiff, Nat.reduceAdd, Nat.reduceMul, Nat.reduceSub, Nat.reduceLT, Int.reduceAdd, Int.reduceSub, Int.reduceMul, Int.reduceLT, Int.reduceLE, Int.reduceToNat, Int.reduceNeg, reduceIte, reduceCtorEq, SPx]; rfl) ?_
        simp (maxSteps := 2000000) (disch := omega) only [SA, ofValue, ofCell, bin, intBin, un, idx, Go.Ev.builtin, calleeOf, V.isNilS, V.depthOk, depth1, V.ok1, V.isAgg, V.cells, isConst, Nat.reduceBEq, Nat.reduceEqDiff, ↓reduceIte, Nat.reduceLeDiff, Nat.reduceAdd, Nat.reduceMul, Nat.reduceSub, Nat.reduceLT, Int.reduceAdd, Int.reduceSub, Int.reduceMul, Int.reduceLT, Int.reduceLE, Int.reduceToNat, Int.reduceNeg, reduceIte, reduceCtorEq, true_and, and_true, Nat.zero_add, Nat.le_refl, if_true, ↓reduceIte, resOf, X_own, mv_int, mv_bool, mv_str, mv_sl, mv_nilS, mv_tup, mv2s_nil, mv2s_cons, mv2_int, mv2_bool, mv2_str, mv2_sl, mv2_nilS, Option.map_some, vi, vn, SPx]
        congr 1
        unfold isRat
        simp; omega
    · repeat (first
        | with_reducible first | refine W_seq ?_ | refine W_skip ?_ | refine W_label ?_ | refine W_ret ?_ | refine W_exit ?_ | refine W_block ?_ | refine thenI ?_ | refine thenRet ?_ | refine thenExit ?_ | refine blockRet ?_ | refine blockI ?_ | refine blockExit ?_ | refine blockExitNe rfl ?_
        | (with_reducible refine W_region_k ?_
           intro K hK
           simp (maxSteps := 2000000) (disch := omega) only [SA, ofValue, ofCell, bin, intBin, un, idx, Go.Ev.builtin, calleeOf, V.isNilS, V.depthOk, depth1, V.ok1, V.isAgg, V.cells, isConst, Nat.reduceBEq, Nat.reduceEqDiff, ↓reduceIte, Nat.reduceLeDiff, Nat.reduceAdd, Nat.reduceMul, Nat.reduceSub, Nat.reduceLT, Int.reduceAdd, Int.reduceSub, Int.reduceMul, Int.reduceLT, Int.reduceLE, Int.reduceToNat, Int.reduceNeg, reduceIte, reduceCtorEq, SPx, SAx, h0, hm, d1, d2]
           refine hK _ _ ?_
           clear hK K)
        | (refine W_draw_k (by decide +kernel) ?_
           intro K hK
           simp (maxSteps := 2000000) (disch := omega) only [SA, ofValue, ofCell, bin, intBin, un, idx, Go.Ev.builtin, calleeOf, V.isNilS, V.depthOk, depth1, V.ok1, V.isAgg, V.cells, isConst, Nat.reduceBEq, Nat.reduceEqDiff, ↓reduceIte, Nat.reduceLeDiff, Nat.reduceAdd, Nat.reduceMul, Nat.reduceSub, Nat.reduceLT, Int.reduceAdd, Int.reduceSub, Int.reduceMul, Int.reduceLT, Int.reduceLE, Int.reduceToNat, Int.reduceNeg, reduceIte, reduceCtorEq, SD, SPx, SAx, h0, hm, d1, d2]
           repeat (refine ⟨by decide +kernel, ?_⟩)
           refine hK _ _ ?_
           clear hK K))
      refine end_ret hd (by simp (maxSteps := 2000000) (disch := omega) only [Tryd.results123, resVars, resVar, SA, ofValue, ofCell, bin, intBin, un, idx, Go.Ev.builtin, calleeOf, V.isNilS, V.depthOk, depth1, V.ok1, V.isAgg, V.cells, isConst, Nat.reduceBEq, Nat.reduceEqDiff, ↓reduceIte, Nat.reduceLeDiff, Nat.reduceAdd, Nat.reduceMul, Nat.reduceSub, Nat.reduceLT, Int.reduceAdd, Int.reduceSub, Int.reduceMul, Int.reduceLT, Int.reduceLE, Int.reduceToNat, Int.reduceNeg, reduceIte, reduceCtorEq, SPx]; rfl) ?_
      simp (maxSteps := 2000000) (disch := omega) only [SA, ofValue, ofCell, bin, intBin, un, idx, Go.Ev.builtin, calleeOf, V.isNilS, V.depthOk, depth1, V.ok1, V.isAgg, V.cells, isConst, Nat.reduceBEq, Nat.reduceEqDiff, ↓reduceIte, Nat.reduceLeDiff, Nat.reduceAdd, Nat.reduceMul, Nat.reduceSub, Nat.reduceLT, Int.reduceAdd, Int.reduceSub, Int.reduceMul, Int.reduceLT, Int.reduceLE, Int.reduceToNat, Int.reduceNeg, reduceIte, reduceCtorEq, true_and, and_true, Nat.zero_add, Nat.le_refl, if_true, ↓reduceIte, resOf, X_own, mv_int, mv_bool, mv_str, mv_sl, mv_nilS, mv_tup, mv2s_nil, mv2s_cons, mv2_int, mv2_bool, mv2_str, mv2_sl, mv2_nilS, Option.map_some, vi, vn, SPx]
      congr 1
      unfold isRat
      simp; omega
  · repeat (first
      | with_reducible first | refine W_seq ?_ | refine W_skip ?_ | refine W_label ?_ | refine W_ret ?_ | refine W_exit ?_ | refine W_block ?_ | refine thenI ?_ | refine thenRet ?_ | refine thenExit ?_ | refine blockRet ?_ | refine blockI ?_ | refine blockExit ?_ | refine blockExitNe rfl ?_
      | (with_reducible refine W_region_k ?_
         intro K hK
         simp (maxSteps := 2000000) (disch := omega) only [SA, ofValue, ofCell, bin, intBin, un, idx, Go.Ev.builtin, calleeOf, V.isNilS, V.depthOk, depth1, V.ok1, V.isAgg, V.cells, isConst, Nat.reduceBEq, Nat.reduceEqDiff, ↓reduceIte, Nat.reduceLeDiff, Nat.reduceAdd, Nat.reduceMul, Nat.reduceSub, Nat.reduceLT, Int.reduceAdd, Int.reduceSub, Int.reduceMul, Int.reduceLT, Int.reduceLE, Int.reduceToNat, Int.reduceNeg, reduceIte, reduceCtorEq, SPx, SAx, h0, hm, d1]
         refine hK _ _ ?_
         clear hK K)
      | (refine W_draw_k (by decide +kernel) ?_
         intro K hK
         simp (maxSteps := 2000000) (disch := omega) only [SA, ofValue, ofCell, bin, intBin, un, idx, Go.Ev.builtin, calleeOf, V.isNilS, V.depthOk, depth1, V.ok1, V.isAgg, V.cells, isConst, Nat.reduceBEq, Nat.reduceEqDiff, ↓reduceIte, Nat.reduceLeDiff, Nat.reduceAdd, Nat.reduceMul, Nat.reduceSub, Nat.reduceLT, Int.reduceAdd, Int.reduceSub, Int.reduceMul, Int.reduceLT, Int.reduceLE, Int.reduceToNat, Int.reduceNeg, reduceIte, reduceCtorEq, SD, SPx, SAx, h0, hm, d1]
         repeat (refine ⟨by decide +kernel, ?_⟩)
         refine hK _ _ ?_
         clear hK K))
    refine end_ret hd (by simp (maxSteps := 2000000) (disch := omega) only [Tryd.results123, resVars, resVar, SA, ofValue, ofCell, bin, intBin, un, idx, Go.Ev.builtin, calleeOf, V.isNilS, V.depthOk, depth1, V.ok1, V.isAgg, V.cells, isConst, Nat.reduceBEq, Nat.reduceEqDiff, ↓reduceIte, Nat.reduceLeDiff, Nat.reduceAdd, Nat.reduceMul, Nat.reduceSub, Nat.reduceLT, Int.reduceAdd, Int.reduceSub, Int.reduceMul, Int.reduceLT, Int.reduceLE, Int.reduceToNat, Int.reduceNeg, reduceIte, reduceCtorEq, SPx]; rfl) ?_
    simp (maxSteps := 2000000) (disch := omega) only [SA, ofValue, ofCell, bin, intBin, un, idx, Go.Ev.builtin, calleeOf, V.isNilS, V.depthOk, depth1, V.ok1, V.isAgg, V.cells, isConst, Nat.reduceBEq, Nat.reduceEqDiff, ↓reduceIte, Nat.reduceLeDiff, Nat.reduceAdd, Nat.reduceMul, Nat.reduceSub, Nat.reduceLT, Int.reduceAdd, Int.reduceSub, Int.reduceMul, Int.reduceLT, Int.reduceLE, Int.reduceToNat, Int.reduceNeg, reduceIte, reduceCtorEq, true_and, and_true, Nat.zero_add, Nat.le_refl, if_true, ↓reduceIte, resOf, X_own, mv_int, mv_bool, mv_str, mv_sl, mv_nilS, mv_tup, mv2s_nil, mv2s_cons, mv2_int, mv2_bool, mv2_str, mv2_sl, mv2_nilS, Option.map_some, vi, vn, SPx]
    congr 1
    unfold isRat
    simp; omega
end Go.Proofs.YtpocekfifokndaaDoor
namespace Go.Proofs.YtpocekfifokndaaDoor
open Go Go.Ev Go.Pl
set_option maxRecDepth 100000
set_option maxHeartbeats 4000000
theorem rowsOf_agg3 (cs : List V) : rowsOf (.agg cs) = if cs.any V.loose then cs.flatMap rows1 else [] := rfl
theorem rows1_rs (r : Ref) (t : TypeId) (o l : Nat) : rows1 (.rs r t o l) = [(r.d, r.s)] := rfl
theorem rows1_int (k : IntKind) (n : Int) : rows1 (.int k n) = [] := rfl
theorem rows1_sl (es : List V) : rows1 (.sl es) = [] := rfl
theorem D140n (own oM : Go.Ev.Rows) : ∃ k, evD X k 140 [.ptr ⟨1, 4, 0, 1⟩ 0 0, .ptr ⟨1, 5, 0, 1⟩ 0 0] [own, oM] none = some [own, oM] := by
  refine evD_of (X := X) (fn := Tryd.f140) Tryd.func140 rfl rfl ⟨by decide +kernel, Nat.le_of_ble_eq_true rfl, rfl, co140⟩ rfl ?_
  have hm : (enter [V.ptr ⟨1, 4, 0, 1⟩ 0 0, V.ptr ⟨1, 5, 0, 1⟩ 0 0] [own, oM]).m = ⟨.nil, [own, oM]⟩ := rfl
  have hd : (enter [V.ptr ⟨1, 4, 0, 1⟩ 0 0, V.ptr ⟨1, 5, 0, 1⟩ 0 0] [own, oM]).dfs = [] := rfl
  generalize enter [V.ptr ⟨1, 4, 0, 1⟩ 0 0, V.ptr ⟨1, 5, 0, 1⟩ 0 0] [own, oM] = s at *
  refine WL_k ?_
  intro K hK
  simp (maxSteps := 2000000) (disch := omega) only [SA, ofValue, ofCell, bin, intBin, un, idx, Go.Ev.builtin, calleeOf, V.isNilS, V.depthOk, depth1, V.ok1, V.isAgg, V.cells, isConst, Nat.reduceBEq, Nat.reduceEqDiff, ↓reduceIte, Nat.reduceLeDiff, Nat.reduceAdd, Nat.reduceMul, Nat.reduceSub, Nat.reduceLT, Int.reduceAdd, Int.reduceSub, Int.reduceMul, Int.reduceLT, Int.reduceLE, Int.reduceToNat, Int.reduceNeg, reduceIte, reduceCtorEq, SPx, hm]
  refine hK _ _ ⟨rfl, ?_⟩
  clear hK K
  repeat (first
    | with_reducible first | refine W_seq ?_ | refine W_skip ?_ | refine W_label ?_ | refine W_ret ?_ | refine W_exit ?_ | refine W_block ?_ | refine thenI ?_ | refine thenRet ?_ | refine thenExit ?_ | refine blockRet ?_ | refine blockI ?_ | refine blockExit ?_ | refine blockExitNe rfl ?_
    | (with_reducible refine W_region_k ?_
       intro K hK
       simp (maxSteps := 2000000) (disch := omega) only [SA, ofValue, ofCell, bin, intBin, un, idx, Go.Ev.builtin, calleeOf, V.isNilS, V.depthOk, depth1, V.ok1, V.isAgg, V.cells, isConst, Nat.reduceBEq, Nat.reduceEqDiff, ↓reduceIte, Nat.reduceLeDiff, Nat.reduceAdd, Nat.reduceMul, Nat.reduceSub, Nat.reduceLT, Int.reduceAdd, Int.reduceSub, Int.reduceMul, Int.reduceLT, Int.reduceLE, Int.reduceToNat, Int.reduceNeg, reduceIte, reduceCtorEq, SPx, bin, eqOk, eqT, isConst, Bool.or_true, Option.map_some]
       refine hK _ _ ?_
       clear hK K)
    | (refine W_draw_k (by decide +kernel) ?_
       intro K hK
       simp (maxSteps := 2000000) (disch := omega) only [SA, ofValue, ofCell, bin, intBin, un, idx, Go.Ev.builtin, calleeOf, V.isNilS, V.depthOk, depth1, V.ok1, V.isAgg, V.cells, isConst, Nat.reduceBEq, Nat.reduceEqDiff, ↓reduceIte, Nat.reduceLeDiff, Nat.reduceAdd, Nat.reduceMul, Nat.reduceSub, Nat.reduceLT, Int.reduceAdd, Int.reduceSub, Int.reduceMul, Int.reduceLT, Int.reduceLE, Int.reduceToNat, Int.reduceNeg, reduceIte, reduceCtorEq, SD, SPx, bin, eqOk, eqT, isConst, Bool.or_true, Option.map_some]
       repeat (refine ⟨by decide +kernel, ?_⟩)
       refine hK _ _ ?_
       clear hK K))
  with_reducible refine W_cond2 (by simp only [SO, ofValue, ofCell, Nat.reduceBEq, Nat.reduceEqDiff, ↓reduceIte]; rfl) (fun h => ?_) (fun h => ?_)
  · simp at h
  · repeat (first
      | with_reducible first | refine W_seq ?_ | refine W_skip ?_ | refine W_label ?_ | refine W_ret ?_ | refine W_exit ?_ | refine W_block ?_ | refine thenI ?_ | refine thenRet ?_ | refine thenExit ?_ | refine blockRet ?_ | refine blockI ?_ | refine blockExit ?_ | refine blockExitNe rfl ?_
      | (with_reducible refine W_region_k ?_
         intro K hK
         simp (maxSteps := 2000000) (disch := omega) only [SA, ofValue, ofCell, bin, intBin, un, idx, Go.Ev.builtin, calleeOf, V.isNilS, V.depthOk, depth1, V.ok1, V.isAgg, V.cells, isConst, Nat.reduceBEq, Nat.reduceEqDiff, ↓reduceIte, Nat.reduceLeDiff, Nat.reduceAdd, Nat.reduceMul, Nat.reduceSub, Nat.reduceLT, Int.reduceAdd, Int.reduceSub, Int.reduceMul, Int.reduceLT, Int.reduceLE, Int.reduceToNat, Int.reduceNeg, reduceIte, reduceCtorEq, SPx]
         refine hK _ _ ?_
         clear hK K)
      | (refine W_draw_k (by decide +kernel) ?_
         intro K hK
         simp (maxSteps := 2000000) (disch := omega) only [SA, ofValue, ofCell, bin, intBin, un, idx, Go.Ev.builtin, calleeOf, V.isNilS, V.depthOk, depth1, V.ok1, V.isAgg, V.cells, isConst, Nat.reduceBEq, Nat.reduceEqDiff, ↓reduceIte, Nat.reduceLeDiff, Nat.reduceAdd, Nat.reduceMul, Nat.reduceSub, Nat.reduceLT, Int.reduceAdd, Int.reduceSub, Int.reduceMul, Int.reduceLT, Int.reduceLE, Int.reduceToNat, Int.reduceNeg, reduceIte, reduceCtorEq, SD, SPx]
         repeat (refine ⟨by decide +kernel, ?_⟩)
         refine hK _ _ ?_
         clear hK K))
    exact ⟨.inl rfl, by simp [hd], rfl⟩
theorem D140p (own oM : Go.Ev.Rows) (k : Int) (x4 x5 : V) (h4 : (⟨own, [oM]⟩ : Mem).row ⟨1, 4, 0, 1⟩ = some ⟨1, 54, false, false, [x4]⟩) (h5 : (⟨own, [oM]⟩ : Mem).row ⟨1, 5, 0, 1⟩ = some ⟨1, 23, false, false, [x5]⟩) :
    ∃ j, evD X j 140 [.ptr ⟨1, 4, 0, 1⟩ 0 0, .ptr ⟨1, 5, 0, 1⟩ 0 0] [own, oM] (some (.ifc 23 (vi k))) =
      some [((own.upd 4 500 ⟨(own.get 4 500).g + 1, 0, true, false, []⟩).upd 4 0 ⟨1, 54, false, false, [.agg [.rs ⟨1, 4, 500, (own.get 4 500).g + 1⟩ 0 0 0, vi 0]]⟩).upd 5 0 ⟨1, 23, false, false, [vi k]⟩, oM] := by
  refine evD_of (X := X) (fn := Tryd.f140) Tryd.func140 rfl rfl ⟨by decide +kernel, Nat.le_of_ble_eq_true rfl, rfl, co140⟩ rfl ?_
  have hm : (enter [V.ptr ⟨1, 4, 0, 1⟩ 0 0, V.ptr ⟨1, 5, 0, 1⟩ 0 0] [own, oM]).m = ⟨.nil, [own, oM]⟩ := rfl
  have hd : (enter [V.ptr ⟨1, 4, 0, 1⟩ 0 0, V.ptr ⟨1, 5, 0, 1⟩ 0 0] [own, oM]).dfs = [] := rfl
  have t0 : (enter [V.ptr ⟨1, 4, 0, 1⟩ 0 0, V.ptr ⟨1, 5, 0, 1⟩ 0 0] [own, oM]).t.get 0 = .ptr ⟨1, 4, 0, 1⟩ 0 0 := rfl
  have t1 : (enter [V.ptr ⟨1, 4, 0, 1⟩ 0 0, V.ptr ⟨1, 5, 0, 1⟩ 0 0] [own, oM]).t.get 1 = .ptr ⟨1, 5, 0, 1⟩ 0 0 := rfl
  generalize enter [V.ptr ⟨1, 4, 0, 1⟩ 0 0, V.ptr ⟨1, 5, 0, 1⟩ 0 0] [own, oM] = s at *
  have h4' : (⟨.nil, [own, oM]⟩ : Mem).row ⟨1, 4, 0, 1⟩ = some ⟨1, 54, false, false, [x4]⟩ := by rw [row_outer _ _ _ _ (by simp), h4]
  have h5' : (⟨.nil, [own, oM]⟩ : Mem).row ⟨1, 5, 0, 1⟩ = some ⟨1, 23, false, false, [x5]⟩ := by rw [row_outer _ _ _ _ (by simp), h5]
  refine WL_k ?_
  intro K hK
  simp (maxSteps := 2000000) (disch := omega) only [SA, ofValue, ofCell, bin, intBin, un, idx, Go.Ev.builtin, calleeOf, V.isNilS, V.depthOk, depth1, V.ok1, V.isAgg, V.cells, isConst, Nat.reduceBEq, Nat.reduceEqDiff, ↓reduceIte, Nat.reduceLeDiff, Nat.reduceAdd, Nat.reduceMul, Nat.reduceSub, Nat.reduceLT, Int.reduceAdd, Int.reduceSub, Int.reduceMul, Int.reduceLT, Int.reduceLE, Int.reduceToNat, Int.reduceNeg, reduceIte, reduceCtorEq, SPx, hm]
  refine hK _ _ ⟨rfl, ?_⟩
  clear hK K
  repeat (first
    | with_reducible first | refine W_seq ?_ | refine W_skip ?_ | refine W_label ?_ | refine W_ret ?_ | refine W_exit ?_ | refine W_block ?_ | refine thenI ?_ | refine thenRet ?_ | refine thenExit ?_ | refine blockRet ?_ | refine blockI ?_ | refine blockExit ?_ | refine blockExitNe rfl ?_
    | (with_reducible refine W_region_k ?_
       intro K hK
       simp (maxSteps := 2000000) (disch := omega) only [SA, ofValue, ofCell, bin, intBin, un, idx, Go.Ev.builtin, calleeOf, V.isNilS, V.depthOk, depth1, V.ok1, V.isAgg, V.cells, isConst, Nat.reduceBEq, Nat.reduceEqDiff, ↓reduceIte, Nat.reduceLeDiff, Nat.reduceAdd, Nat.reduceMul, Nat.reduceSub, Nat.reduceLT, Int.reduceAdd, Int.reduceSub, Int.reduceMul, Int.reduceLT, Int.reduceLE, Int.reduceToNat, Int.reduceNeg, reduceIte, reduceCtorEq, SPx, bin, eqOk, eqT, isConst, Bool.or_true, Option.map_some]
       refine hK _ _ ?_
       clear hK K)
    | (refine W_draw_k (by decide +kernel) ?_
       intro K hK
       simp (maxSteps := 2000000) (disch := omega) only [SA, ofValue, ofCell, bin, intBin, un, idx, Go.Ev.builtin, calleeOf, V.isNilS, V.depthOk, depth1, V.ok1, V.isAgg, V.cells, isConst, Nat.reduceBEq, Nat.reduceEqDiff, ↓reduceIte, Nat.reduceLeDiff, Nat.reduceAdd, Nat.reduceMul, Nat.reduceSub, Nat.reduceLT, Int.reduceAdd, Int.reduceSub, Int.reduceMul, Int.reduceLT, Int.reduceLE, Int.reduceToNat, Int.reduceNeg, reduceIte, reduceCtorEq, SD, SPx, bin, eqOk, eqT, isConst, Bool.or_true, Option.map_some]
       repeat (refine ⟨by decide +kernel, ?_⟩)
       refine hK _ _ ?_
       clear hK K))
  with_reducible refine W_cond2 (by simp only [SO, ofValue, ofCell, Nat.reduceBEq, Nat.reduceEqDiff, ↓reduceIte]; rfl) (fun h => ?_) (fun h => ?_)
  · repeat (first
      | with_reducible first | refine W_seq ?_ | refine W_skip ?_ | refine W_label ?_ | refine W_ret ?_ | refine W_exit ?_ | refine W_block ?_ | refine thenI ?_ | refine thenRet ?_ | refine thenExit ?_ | refine blockRet ?_ | refine blockI ?_ | refine blockExit ?_ | refine blockExitNe rfl ?_
      | (with_reducible refine W_region_k ?_
         intro K hK
         simp (maxSteps := 2000000) (disch := omega) only [SA, ofValue, ofCell, bin, intBin, un, idx, Go.Ev.builtin, calleeOf, V.isNilS, V.depthOk, depth1, V.ok1, V.isAgg, V.cells, isConst, Nat.reduceBEq, Nat.reduceEqDiff, ↓reduceIte, Nat.reduceLeDiff, Nat.reduceAdd, Nat.reduceMul, Nat.reduceSub, Nat.reduceLT, Int.reduceAdd, Int.reduceSub, Int.reduceMul, Int.reduceLT, Int.reduceLE, Int.reduceToNat, Int.reduceNeg, reduceIte, reduceCtorEq, SPx, SAx, SSx, appendTo, elemsOf, t0, t1, h4', h5', co133, sr133, (P133 k).iff, Mem.rows_new, Mem.rows_lit, rowsOf_agg3, rows1_rs, rows1_int, rows1_sl]
         refine hK _ _ ?_
         clear hK K)
      | (refine W_draw_k (by decide +kernel) ?_
         intro K hK
         simp (maxSteps := 2000000) (disch := omega) only [SA, ofValue, ofCell, bin, intBin, un, idx, Go.Ev.builtin, calleeOf, V.isNilS, V.depthOk, depth1, V.ok1, V.isAgg, V.cells, isConst, Nat.reduceBEq, Nat.reduceEqDiff, ↓reduceIte, Nat.reduceLeDiff, Nat.reduceAdd, Nat.reduceMul, Nat.reduceSub, Nat.reduceLT, Int.reduceAdd, Int.reduceSub, Int.reduceMul, Int.reduceLT, Int.reduceLE, Int.reduceToNat, Int.reduceNeg, reduceIte, reduceCtorEq, SD, SPx, SAx, SSx, appendTo, elemsOf, t0, t1, h4', h5', co133, sr133, (P133 k).iff, Mem.rows_new, Mem.rows_lit, rowsOf_agg3, rows1_rs, rows1_int, rows1_sl]
         repeat (refine ⟨by decide +kernel, ?_⟩)
         refine hK _ _ ?_
         clear hK K))
    refine ⟨.inl rfl, by simp [hd], ?_⟩
    simp [Mem.new, Mem.set, outSet]
  · simp at h
theorem fin118 {oM : Go.Ev.Rows} {s : St} {es : List Nat} {sh k : Int} (hd : s.dfs = [(140, [.ptr ⟨1, 4, 0, 1⟩ 0 0, .ptr ⟨1, 5, 0, 1⟩ 0 0])]) (ho : s.m.out = [oM]) (h4 : s.t.get 4 = .ptr ⟨1, 4, 0, 1⟩ 0 0) (h5 : s.t.get 5 = .ptr ⟨1, 5, 0, 1⟩ 0 0)
    (r4 : s.m.row ⟨1, 4, 0, 1⟩ = some ⟨1, 54, false, false, [.agg [.sl (nats es), vi sh]]⟩) (r5 : s.m.row ⟨1, 5, 0, 1⟩ = some ⟨1, 23, false, false, [vi k]⟩) :
    finQ X Tryd.f118 (.ret (.tup [.agg [.sl (nats es), vi sh], vi k]), [oM]) .ret s := by
  obtain ⟨t, ⟨own, out⟩, dfs⟩ := s
  dsimp only at hd ho h4 h5 r4 r5
  subst ho
  refine fin_ret1 (own := own) (vs := [.agg [.sl (nats es), vi sh], vi k]) hd (D140n own oM) ?_ rfl rfl
  simp (maxSteps := 2000000) (disch := omega) only [SA, ofValue, ofCell, bin, intBin, un, idx, Go.Ev.builtin, calleeOf, V.isNilS, V.depthOk, depth1, V.ok1, V.isAgg, V.cells, isConst, Nat.reduceBEq, Nat.reduceEqDiff, ↓reduceIte, Nat.reduceLeDiff, Nat.reduceAdd, Nat.reduceMul, Nat.reduceSub, Nat.reduceLT, Int.reduceAdd, Int.reduceSub, Int.reduceMul, Int.reduceLT, Int.reduceLE, Int.reduceToNat, Int.reduceNeg, reduceIte, reduceCtorEq, SPx, Tryd.results118, resVars, resVar, h4, h5, r4, r5]
theorem fin118p {oM : Go.Ev.Rows} {s : St} {x4 x5 : V} {k : Int} (hd : s.dfs = [(140, [.ptr ⟨1, 4, 0, 1⟩ 0 0, .ptr ⟨1, 5, 0, 1⟩ 0 0])]) (ho : s.m.out = [oM]) (h4 : s.t.get 4 = .ptr ⟨1, 4, 0, 1⟩ 0 0) (h5 : s.t.get 5 = .ptr ⟨1, 5, 0, 1⟩ 0 0)
    (r4 : s.m.row ⟨1, 4, 0, 1⟩ = some ⟨1, 54, false, false, [x4]⟩) (r5 : s.m.row ⟨1, 5, 0, 1⟩ = some ⟨1, 23, false, false, [x5]⟩) :
    finQ X Tryd.f118 (.ret (.tup [.agg [.sl [], vi 0], vi k]), [oM]) (.panic (.ifc 23 (vi k))) s := by
  obtain ⟨t, ⟨own, out⟩, dfs⟩ := s
  dsimp only at hd ho h4 h5 r4 r5
  subst ho
  refine fin_panic1 (vs := [.agg [.rs ⟨1, 4, 500, (own.get 4 500).g + 1⟩ 0 0 0, vi 0], vi k]) hd (D140p own oM k x4 x5 r4 r5) ?_ ?_ ?_
  · rw [← set_own _ [oM] 1 5 0 _ rfl, ← set_own _ [oM] 1 4 0 _ rfl, ← set_own _ [oM] 1 4 500 _ rfl]
    simp (maxSteps := 2000000) (disch := omega) only [SA, ofValue, ofCell, bin, intBin, un, idx, Go.Ev.builtin, calleeOf, V.isNilS, V.depthOk, depth1, V.ok1, V.isAgg, V.cells, isConst, Nat.reduceBEq, Nat.reduceEqDiff, ↓reduceIte, Nat.reduceLeDiff, Nat.reduceAdd, Nat.reduceMul, Nat.reduceSub, Nat.reduceLT, Int.reduceAdd, Int.reduceSub, Int.reduceMul, Int.reduceLT, Int.reduceLE, Int.reduceToNat, Int.reduceNeg, reduceIte, reduceCtorEq, SPx, Tryd.results118, resVars, resVar, h4, h5, r4, r5]
  · rw [← set_own _ [oM] 1 5 0 _ rfl, ← set_own _ [oM] 1 4 0 _ rfl, ← set_own _ [oM] 1 4 500 _ rfl]
    simp (maxSteps := 2000000) (disch := omega) only [SA, ofValue, ofCell, bin, intBin, un, idx, Go.Ev.builtin, calleeOf, V.isNilS, V.depthOk, depth1, V.ok1, V.isAgg, V.cells, isConst, Nat.reduceBEq, Nat.reduceEqDiff, ↓reduceIte, Nat.reduceLeDiff, Nat.reduceAdd, Nat.reduceMul, Nat.reduceSub, Nat.reduceLT, Int.reduceAdd, Int.reduceSub, Int.reduceMul, Int.reduceLT, Int.reduceLE, Int.reduceToNat, Int.reduceNeg, reduceIte, reduceCtorEq, SPx, SAx, resOf, X_own, mv_tup, mv2s_cons, mv2s_nil, mv2_int, cut, List.take_zero, List.drop_zero]
  · exact frzR_own (fun r ty off len hm => by
      simp [resOf, leaves, leaves2, V.loose] at hm
      rw [hm.1]; rfl)
theorem M118 (g : FuncId) (cap : List V) (oM : Go.Ev.Rows) (r : Res) (hcap : cap.any V.loose = true) (hco : callOk Tryd.prog g = true) (hsr : scalarRes Tryd.prog g = false) (hg : ∀ own, AnsAt X g cap [own, oM] r)
    (R : Res) (hR : (∃ es sh, r = .ret (.agg [.sl (nats es), vi sh]) ∧ R = .ret (.tup [.agg [.sl (nats es), vi sh], vi 0])) ∨ (∃ k, r = .panic (.ifc 23 (vi k)) ∧ R = .ret (.tup [.agg [.sl [], vi 0], vi k]))) :
    AnsAt X 118 [vi 0, .fn g [] cap] [oM] R := by
  have hne : cap.isEmpty = false := by cases cap with | nil => simp at hcap | cons _ _ => rfl
  refine ⟨rfl, by simp [V.refs, V.loose, hne], fun v hv => ?_, ?_⟩
  · rcases hR with ⟨es, sh, _, rfl⟩ | ⟨k, _, rfl⟩
    · injection hv with hv; subst hv; rfl
    · injection hv with hv; subst hv; rfl
  refine runsAt_of (X := X) (fn := Tryd.f118) Tryd.func118 rfl ⟨by decide +kernel, Nat.le_of_ble_eq_true rfl⟩ ?_
  have hd : (enter [vi 0, V.fn g [] cap] [oM]).dfs = [] := rfl
  have h0 : (enter [vi 0, V.fn g [] cap] [oM]).t.get 0 = vi 0 := rfl
  have h1 : (enter [vi 0, V.fn g [] cap] [oM]).t.get 1 = .fn g [] cap := rfl
  have hm : (enter [vi 0, V.fn g [] cap] [oM]).m = ⟨.nil, [oM]⟩ := rfl
  generalize enter [vi 0, V.fn g [] cap] [oM] = s at *
  repeat (first
    | with_reducible first | refine W_seq ?_ | refine W_skip ?_ | refine W_label ?_ | refine W_ret ?_ | refine W_exit ?_ | refine W_block ?_ | refine thenI ?_ | refine thenRet ?_ | refine thenExit ?_ | refine blockRet ?_ | refine blockI ?_ | refine blockExit ?_ | refine blockExitNe rfl ?_
    | (with_reducible refine W_region_k ?_
       intro K hK
       simp (maxSteps := 2000000) (disch := omega) only [SA, ofValue, ofCell, bin, intBin, un, idx, Go.Ev.builtin, calleeOf, V.isNilS, V.depthOk, depth1, V.ok1, V.isAgg, V.cells, isConst, Nat.reduceBEq, Nat.reduceEqDiff, ↓reduceIte, Nat.reduceLeDiff, Nat.reduceAdd, Nat.reduceMul, Nat.reduceSub, Nat.reduceLT, Int.reduceAdd, Int.reduceSub, Int.reduceMul, Int.reduceLT, Int.reduceLE, Int.reduceToNat, Int.reduceNeg, reduceIte, reduceCtorEq, SPx, SAx, h0, h1, hm]
       refine hK _ _ ?_
       clear hK K)
    | (refine W_draw_k (by decide +kernel) ?_
       intro K hK
       simp (maxSteps := 2000000) (disch := omega) only [SA, ofValue, ofCell, bin, intBin, un, idx, Go.Ev.builtin, calleeOf, V.isNilS, V.depthOk, depth1, V.ok1, V.isAgg, V.cells, isConst, Nat.reduceBEq, Nat.reduceEqDiff, ↓reduceIte, Nat.reduceLeDiff, Nat.reduceAdd, Nat.reduceMul, Nat.reduceSub, Nat.reduceLT, Int.reduceAdd, Int.reduceSub, Int.reduceMul, Int.reduceLT, Int.reduceLE, Int.reduceToNat, Int.reduceNeg, reduceIte, reduceCtorEq, SD, SPx, SAx, h0, h1, hm]
       repeat (refine ⟨by decide +kernel, ?_⟩)
       refine hK _ _ ?_
       clear hK K))
  with_reducible refine W_cond2 (by simp only [SO, ofValue, ofCell, Nat.reduceBEq, Nat.reduceEqDiff, ↓reduceIte]; rfl) (fun h => ?_) (fun h => ?_)
  · simp at h
  repeat (first
    | with_reducible first | refine W_seq ?_ | refine W_skip ?_ | refine W_label ?_ | refine W_ret ?_ | refine W_exit ?_ | refine W_block ?_ | refine thenI ?_ | refine thenRet ?_ | refine thenExit ?_ | refine blockRet ?_ | refine blockI ?_ | refine blockExit ?_ | refine blockExitNe rfl ?_
    | (with_reducible refine W_region_k ?_
       intro K hK
       simp (maxSteps := 2000000) (disch := omega) only [SA, ofValue, ofCell, bin, intBin, un, idx, Go.Ev.builtin, calleeOf, V.isNilS, V.depthOk, depth1, V.ok1, V.isAgg, V.cells, isConst, Nat.reduceBEq, Nat.reduceEqDiff, ↓reduceIte, Nat.reduceLeDiff, Nat.reduceAdd, Nat.reduceMul, Nat.reduceSub, Nat.reduceLT, Int.reduceAdd, Int.reduceSub, Int.reduceMul, Int.reduceLT, Int.reduceLE, Int.reduceToNat, Int.reduceNeg, reduceIte, reduceCtorEq, SPx, SAx, h0, h1, hm]
       refine hK _ _ ?_
       clear hK K)
    | (refine W_draw_k (by decide +kernel) ?_
       intro K hK
       simp (maxSteps := 2000000) (disch := omega) only [SA, ofValue, ofCell, bin, intBin, un, idx, Go.Ev.builtin, calleeOf, V.isNilS, V.depthOk, depth1, V.ok1, V.isAgg, V.cells, isConst, Nat.reduceBEq, Nat.reduceEqDiff, ↓reduceIte, Nat.reduceLeDiff, Nat.reduceAdd, Nat.reduceMul, Nat.reduceSub, Nat.reduceLT, Int.reduceAdd, Int.reduceSub, Int.reduceMul, Int.reduceLT, Int.reduceLE, Int.reduceToNat, Int.reduceNeg, reduceIte, reduceCtorEq, SD, SPx, SAx, h0, h1, hm]
       repeat (refine ⟨by decide +kernel, ?_⟩)
       refine hK _ _ ?_
       clear hK K))
  have key : ∀ (m : Mem) (dst : Nat) (K KP : V → Mem → Prop), m.out = [oM] → CallQ X g cap m dst K KP = (match r with | .ret v => K v m | .panic v => KP v m) := by
    intro m dst K KP hmo
    have hh := hg m.own
    rw [← hmo] at hh
    cases r with
    | ret v => exact propext hh.iff
    | panic v => exact propext hh.panics
  with_reducible refine W_region_k ?_
  intro K hK
  simp (maxSteps := 2000000) (disch := omega) only [SA, ofValue, ofCell, bin, intBin, un, idx, Go.Ev.builtin, calleeOf, V.isNilS, V.depthOk, depth1, V.ok1, V.isAgg, V.cells, isConst, Nat.reduceBEq, Nat.reduceEqDiff, ↓reduceIte, Nat.reduceLeDiff, Nat.reduceAdd, Nat.reduceMul, Nat.reduceSub, Nat.reduceLT, Int.reduceAdd, Int.reduceSub, Int.reduceMul, Int.reduceLT, Int.reduceLE, Int.reduceToNat, Int.reduceNeg, reduceIte, reduceCtorEq, SPx, SAx, h0, h1, hm, hd, hco, hsr]
  rw [key _ _ _ _ rfl]
  rcases hR with ⟨es, sh, rfl, rfl⟩ | ⟨k, rfl, rfl⟩
  · simp (maxSteps := 2000000) (disch := omega) only [SA, ofValue, ofCell, bin, intBin, un, idx, Go.Ev.builtin, calleeOf, V.isNilS, V.depthOk, depth1, V.ok1, V.isAgg, V.cells, isConst, Nat.reduceBEq, Nat.reduceEqDiff, ↓reduceIte, Nat.reduceLeDiff, Nat.reduceAdd, Nat.reduceMul, Nat.reduceSub, Nat.reduceLT, Int.reduceAdd, Int.reduceSub, Int.reduceMul, Int.reduceLT, Int.reduceLE, Int.reduceToNat, Int.reduceNeg, reduceIte, reduceCtorEq, SPx, SAx, SSx, appendTo, elemsOf]
    refine hK _ _ ?_
    clear hK K
    repeat (first
      | with_reducible first | refine W_seq ?_ | refine W_skip ?_ | refine W_label ?_ | refine W_ret ?_ | refine W_exit ?_ | refine W_block ?_ | refine thenI ?_ | refine thenRet ?_ | refine thenExit ?_ | refine blockRet ?_ | refine blockI ?_ | refine blockExit ?_ | refine blockExitNe rfl ?_
      | (with_reducible refine W_region_k ?_
         intro K hK
         simp (maxSteps := 2000000) (disch := omega) only [SA, ofValue, ofCell, bin, intBin, un, idx, Go.Ev.builtin, calleeOf, V.isNilS, V.depthOk, depth1, V.ok1, V.isAgg, V.cells, isConst, Nat.reduceBEq, Nat.reduceEqDiff, ↓reduceIte, Nat.reduceLeDiff, Nat.reduceAdd, Nat.reduceMul, Nat.reduceSub, Nat.reduceLT, Int.reduceAdd, Int.reduceSub, Int.reduceMul, Int.reduceLT, Int.reduceLE, Int.reduceToNat, Int.reduceNeg, reduceIte, reduceCtorEq, SPx]
         refine hK _ _ ?_
         clear hK K)
      | (refine W_draw_k (by decide +kernel) ?_
         intro K hK
         simp (maxSteps := 2000000) (disch := omega) only [SA, ofValue, ofCell, bin, intBin, un, idx, Go.Ev.builtin, calleeOf, V.isNilS, V.depthOk, depth1, V.ok1, V.isAgg, V.cells, isConst, Nat.reduceBEq, Nat.reduceEqDiff, ↓reduceIte, Nat.reduceLeDiff, Nat.reduceAdd, Nat.reduceMul, Nat.reduceSub, Nat.reduceLT, Int.reduceAdd, Int.reduceSub, Int.reduceMul, Int.reduceLT, Int.reduceLE, Int.reduceToNat, Int.reduceNeg, reduceIte, reduceCtorEq, SD, SPx]
         repeat (refine ⟨by decide +kernel, ?_⟩)
         refine hK _ _ ?_
         clear hK K))
    refine fin118 (es := es) (sh := sh) (k := 0) ?_ ?_ ?_ ?_ ?_ ?_
    all_goals (try simp (maxSteps := 2000000) (disch := omega) only [SO, ofValue, ofCell, Nat.reduceBEq, Nat.reduceEqDiff, ↓reduceIte, and_self, and_true, true_and, Mem.newRef_eq, Mem.gen_nil, Mem.gen_new, Mem.gen_set, Mem.row_new, Mem.row_setW, Mem.new_out, Mem.set_out, List.length_nil, List.length_cons, Nat.zero_le, Nat.le_refl, Nat.reduceLeDiff, Nat.reduceAdd, and_self, and_true, true_and, Nat.zero_add, hd])
    all_goals first | rfl | simp [Mem.new, Mem.set]
  · simp (maxSteps := 2000000) (disch := omega) only [SA, ofValue, ofCell, bin, intBin, un, idx, Go.Ev.builtin, calleeOf, V.isNilS, V.depthOk, depth1, V.ok1, V.isAgg, V.cells, isConst, Nat.reduceBEq, Nat.reduceEqDiff, ↓reduceIte, Nat.reduceLeDiff, Nat.reduceAdd, Nat.reduceMul, Nat.reduceSub, Nat.reduceLT, Int.reduceAdd, Int.reduceSub, Int.reduceMul, Int.reduceLT, Int.reduceLE, Int.reduceToNat, Int.reduceNeg, reduceIte, reduceCtorEq, SPx, SAx, SSx, appendTo, elemsOf]
    refine hK _ _ ?_
    clear hK K
    repeat (first
      | with_reducible first | refine W_seq ?_ | refine W_skip ?_ | refine W_label ?_ | refine W_ret ?_ | refine W_exit ?_ | refine W_block ?_ | refine thenI ?_ | refine thenRet ?_ | refine thenExit ?_ | refine blockRet ?_ | refine blockI ?_ | refine blockExit ?_ | refine blockExitNe rfl ?_
      | (with_reducible refine W_region_k ?_
         intro K hK
         simp (maxSteps := 2000000) (disch := omega) only [SA, ofValue, ofCell, bin, intBin, un, idx, Go.Ev.builtin, calleeOf, V.isNilS, V.depthOk, depth1, V.ok1, V.isAgg, V.cells, isConst, Nat.reduceBEq, Nat.reduceEqDiff, ↓reduceIte, Nat.reduceLeDiff, Nat.reduceAdd, Nat.reduceMul, Nat.reduceSub, Nat.reduceLT, Int.reduceAdd, Int.reduceSub, Int.reduceMul, Int.reduceLT, Int.reduceLE, Int.reduceToNat, Int.reduceNeg, reduceIte, reduceCtorEq, SPx]
         refine hK _ _ ?_
         clear hK K)
      | (refine W_draw_k (by decide +kernel) ?_
         intro K hK
         simp (maxSteps := 2000000) (disch := omega) only [SA, ofValue, ofCell, bin, intBin, un, idx, Go.Ev.builtin, calleeOf, V.isNilS, V.depthOk, depth1, V.ok1, V.isAgg, V.cells, isConst, Nat.reduceBEq, Nat.reduceEqDiff, ↓reduceIte, Nat.reduceLeDiff, Nat.reduceAdd, Nat.reduceMul, Nat.reduceSub, Nat.reduceLT, Int.reduceAdd, Int.reduceSub, Int.reduceMul, Int.reduceLT, Int.reduceLE, Int.reduceToNat, Int.reduceNeg, reduceIte, reduceCtorEq, SD, SPx]
         repeat (refine ⟨by decide +kernel, ?_⟩)
         refine hK _ _ ?_
         clear hK K))
    refine fin118p (k := k) (x4 := .agg [.rs ⟨1, 4, 1, 1⟩ 0 0 0, vi 0]) (x5 := vi 0) ?_ ?_ ?_ ?_ ?_ ?_
    all_goals (try simp (maxSteps := 2000000) (disch := omega) only [SO, ofValue, ofCell, Nat.reduceBEq, Nat.reduceEqDiff, ↓reduceIte, and_self, and_true, true_and, Mem.newRef_eq, Mem.gen_nil, Mem.gen_new, Mem.gen_set, Mem.row_new, Mem.row_setW, Mem.new_out, Mem.set_out, List.length_nil, List.length_cons, Nat.zero_le, Nat.le_refl, Nat.reduceLeDiff, Nat.reduceAdd, and_self, and_true, true_and, Nat.zero_add, hd])
    all_goals first | rfl | simp [Mem.new, Mem.set]
theorem M118e (e : Int) (he : e ≠ 0) (g : FuncId) (cap : List V) (oM : Go.Ev.Rows) (hcap : cap.any V.loose = true) : AnsAt X 118 [vi e, .fn g [] cap] [oM] (.ret (.tup [.agg [.sl [], vi 0], vi e])) := by
  have hne : cap.isEmpty = false := by cases cap with | nil => simp at hcap | cons _ _ => rfl
  refine ⟨rfl, by simp [V.refs, V.loose, hne], fun v hv => ?_, ?_⟩
  · injection hv with hv; subst hv; rfl
  refine runsAt_of (X := X) (fn := Tryd.f118) Tryd.func118 rfl ⟨by decide +kernel, Nat.le_of_ble_eq_true rfl⟩ ?_
  have hd : (enter [vi e, V.fn g [] cap] [oM]).dfs = [] := rfl
  have h0 : (enter [vi e, V.fn g [] cap] [oM]).t.get 0 = vi e := rfl
  have h1 : (enter [vi e, V.fn g [] cap] [oM]).t.get 1 = .fn g [] cap := rfl
  have hm : (enter [vi e, V.fn g [] cap] [oM]).m = ⟨.nil, [oM]⟩ := rfl
  generalize enter [vi e, V.fn g [] cap] [oM] = s at *
  repeat (first
    | with_reducible first | refine W_seq ?_ | refine W_skip ?_ | refine W_label ?_ | refine W_ret ?_ | refine W_exit ?_ | refine W_block ?_ | refine thenI ?_ | refine thenRet ?_ | refine thenExit ?_ | refine blockRet ?_ | refine blockI ?_ | refine blockExit ?_ | refine blockExitNe rfl ?_
    | (with_reducible refine W_region_k ?_
       intro K hK
       simp (maxSteps := 2000000) (disch := omega) only [SA, ofValue, ofCell, bin, intBin, un, idx, Go.Ev.builtin, calleeOf, V.isNilS, V.depthOk, depth1, V.ok1, V.isAgg, V.cells, isConst, Nat.reduceBEq, Nat.reduceEqDiff, ↓reduceIte, Nat.reduceLeDiff, Nat.reduceAdd, Nat.reduceMul, Nat.reduceSub, Nat.reduceLT, Int.reduceAdd, Int.reduceSub, Int.reduceMul, Int.reduceLT, Int.reduceLE, Int.reduceToNat, Int.reduceNeg, reduceIte, reduceCtorEq, SPx, SAx, h0, h1, hm]
       refine hK _ _ ?_
       clear hK K)
    | (refine W_draw_k (by decide +kernel) ?_
       intro K hK
       simp (maxSteps := 2000000) (disch := omega) only [SA, ofValue, ofCell, bin, intBin, un, idx, Go.Ev.builtin, calleeOf, V.isNilS, V.depthOk, depth1, V.ok1, V.isAgg, V.cells, isConst, Nat.reduceBEq, Nat.reduceEqDiff, ↓reduceIte, Nat.reduceLeDiff, Nat.reduceAdd, Nat.reduceMul, Nat.reduceSub, Nat.reduceLT, Int.reduceAdd, Int.reduceSub, Int.reduceMul, Int.reduceLT, Int.reduceLE, Int.reduceToNat, Int.reduceNeg, reduceIte, reduceCtorEq, SD, SPx, SAx, h0, h1, hm]
       repeat (refine ⟨by decide +kernel, ?_⟩)
       refine hK _ _ ?_
       clear hK K))
  with_reducible refine W_cond2 (by simp only [SO, ofValue, ofCell, Nat.reduceBEq, Nat.reduceEqDiff, ↓reduceIte]; rfl) (fun h => ?_) (fun h => ?_)
  · repeat (first
      | with_reducible first | refine W_seq ?_ | refine W_skip ?_ | refine W_label ?_ | refine W_ret ?_ | refine W_exit ?_ | refine W_block ?_ | refine thenI ?_ | refine thenRet ?_ | refine thenExit ?_ | refine blockRet ?_ | refine blockI ?_ | refine blockExit ?_ | refine blockExitNe rfl ?_
      | (with_reducible refine W_region_k ?_
         intro K hK
         simp (maxSteps := 2000000) (disch := omega) only [SA, ofValue, ofCell, bin, intBin, un, idx, Go.Ev.builtin, calleeOf, V.isNilS, V.depthOk, depth1, V.ok1, V.isAgg, V.cells, isConst, Nat.reduceBEq, Nat.reduceEqDiff, ↓reduceIte, Nat.reduceLeDiff, Nat.reduceAdd, Nat.reduceMul, Nat.reduceSub, Nat.reduceLT, Int.reduceAdd, Int.reduceSub, Int.reduceMul, Int.reduceLT, Int.reduceLE, Int.reduceToNat, Int.reduceNeg, reduceIte, reduceCtorEq, SPx, SAx, h0, h1, hm]
         refine hK _ _ ?_
         clear hK K)
      | (refine W_draw_k (by decide +kernel) ?_
         intro K hK
         simp (maxSteps := 2000000) (disch := omega) only [SA, ofValue, ofCell, bin, intBin, un, idx, Go.Ev.builtin, calleeOf, V.isNilS, V.depthOk, depth1, V.ok1, V.isAgg, V.cells, isConst, Nat.reduceBEq, Nat.reduceEqDiff, ↓reduceIte, Nat.reduceLeDiff, Nat.reduceAdd, Nat.reduceMul, Nat.reduceSub, Nat.reduceLT, Int.reduceAdd, Int.reduceSub, Int.reduceMul, Int.reduceLT, Int.reduceLE, Int.reduceToNat, Int.reduceNeg, reduceIte, reduceCtorEq, SD, SPx, SAx, h0, h1, hm]
         repeat (refine ⟨by decide +kernel, ?_⟩)
         refine hK _ _ ?_
         clear hK K))
    refine fin_ret (X := X) (fn := Tryd.f118) (vs := [.agg [.rs ⟨1, 4, 1, 1⟩ 0 0 0, vi 0], vi e]) hd ?_ ?_ ?_
    · simp (maxSteps := 2000000) (disch := omega) only [SA, ofValue, ofCell, bin, intBin, un, idx, Go.Ev.builtin, calleeOf, V.isNilS, V.depthOk, depth1, V.ok1, V.isAgg, V.cells, isConst, Nat.reduceBEq, Nat.reduceEqDiff, ↓reduceIte, Nat.reduceLeDiff, Nat.reduceAdd, Nat.reduceMul, Nat.reduceSub, Nat.reduceLT, Int.reduceAdd, Int.reduceSub, Int.reduceMul, Int.reduceLT, Int.reduceLE, Int.reduceToNat, Int.reduceNeg, reduceIte, reduceCtorEq, SPx, SAx, Tryd.results118, resVars, resVar]
    · simp (maxSteps := 2000000) (disch := omega) only [SA, ofValue, ofCell, bin, intBin, un, idx, Go.Ev.builtin, calleeOf, V.isNilS, V.depthOk, depth1, V.ok1, V.isAgg, V.cells, isConst, Nat.reduceBEq, Nat.reduceEqDiff, ↓reduceIte, Nat.reduceLeDiff, Nat.reduceAdd, Nat.reduceMul, Nat.reduceSub, Nat.reduceLT, Int.reduceAdd, Int.reduceSub, Int.reduceMul, Int.reduceLT, Int.reduceLE, Int.reduceToNat, Int.reduceNeg, reduceIte, reduceCtorEq, SPx, SAx, resOf, X_own, mv_tup, mv2s_cons, mv2s_nil, mv2_int, cut, List.take_zero, List.drop_zero]
    · refine (frzR_own (fun r ty off len hm => ?_)).trans ?_
      · simp [resOf, leaves, leaves2, V.loose] at hm
        rw [hm.1]; rfl
      · rfl
  · exact absurd (by simpa using h) he
end Go.Proofs.YtpocekfifokndaaDoor
