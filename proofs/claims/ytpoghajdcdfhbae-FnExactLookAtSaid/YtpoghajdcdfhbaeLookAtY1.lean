/- What functions that FnExactLookAt reaches compute. No conditions. -/
import Derived.Test.YtpoghajdcdfhbaeLookAtY0
set_option maxRecDepth 100000
set_option maxHeartbeats 4000000
set_option linter.all false
namespace Go.Proofs
open Go.Ab
theorem s63 : ∀ vs r, g_spec_l02About vs = some r → Says Try.prog 63 vs r := by
  intro vs r h
  unfold g_spec_l02About at h
  split at h
  · rename_i y0 y1 y2 y3
    split at h
    · rename_i hp
      cases h
      refine spec_of (tab := tabOf [(35, g_spec_l01Long), (58, g_spec_l01Finite), (61, g_spec_l01Narrow), (82, g_spec_l02No), (83, g_spec_l01SineWide)]) (cp := cp63) (ic := ic63) (rvl := [(.c 4 (some 4))]) hm (tabOk_cons s35 (tabOk_cons s58 (tabOk_cons s61 (tabOk_cons s82 (tabOk_cons s83 tabOk_nil))))) Try.func63 rfl rfl rfl (by kernel_rfl) rfl (Nat.le_of_ble_eq_true rfl) ?_
      show eA _ _ _ _
      unfold ic63
      simp only [p_spec_l02About, Bool.and_eq_true, Bool.or_eq_true, decide_eq_true_eq, Bool.not_eq_true', decide_eq_false_iff_not] at hp
      simp only [
          hp, eA_seq, eA_reg, eA_ret, eA_skip, eA_cond, eA_block, eA_exit, eCc_true, eCc_false, Kq_normal, Kq_ret, Kq_exit, Kb_normal, Kb_exit, Kb_ret, Kreg_eq, eI_nil, bindSt_some,
                bindSt_none, bindSt_ite, eR_eq, eGI_tt, eGI_ff, eGI_tf, eGI_ft, eop, vop, ev_t, ev_c, ev_f, Option.map, put_some, put_none, set_eq, setH_eq, get_eq, hp_eq,
                keep_cons, keep_nil, lk_cons, lk_nil, startSt, envOf, reduceIte, Nat.reduceEqDiff, Nat.reduceAdd, Nat.zero_add, Nat.add_zero, Nat.reduceMul, Nat.reduceLT,
                Nat.reduceLeDiff, bop, uop, intop, fltop, convop, true_or, or_true, Bool.false_eq_true, ret_ok, ret_normal, outV, rvV, rvs, ex_some, pureV, pureX, pureX.pure1',
                pure1, Bool.true_and, Bool.false_and, Bool.and_true, Bool.and_false, Option.isNone_none, AV.cells, AV.one, storable, laid, refless, refless1, List.all_cons,
                List.all_nil, List.length_cons, List.length_nil, List.getElem?_cons_zero, List.getElem?_cons_succ, List.set_cons_zero, List.set_cons_succ, List.set_nil,
                List.map_cons, List.map_nil, vload, loadC, storeC, vnil, vfaddr, vextract, callTo, List.mapM_cons, List.mapM_nil, Option.pure_def, Option.bind_eq_bind,
                Option.bind_some, tabOf_cons, flatT, flatE, flatC, and_self, and_true, true_and, implies_true, forall_const, not_true_eq_false, not_false_eq_true, false_implies,
                List.take_succ_cons, List.drop_succ_cons, List.take_zero, List.drop_zero, Bool.not_true, Bool.not_false, beq_self_eq_true, decide_true, decide_false, eq_self,
                Int.reduceEq, Int.reduceLE, Int.reduceLT, Bool.not_not, Bool.true_or, Bool.or_true, Bool.false_or, Bool.or_false, if_true, if_false, List.getElem?_nil, Kl_normal,
                Kl_exit, Kl_ret, fc63_0, fc63_1, fc63_2, fc63_3, fc63_4, fc63_5, fc63_6, fc63_7, fc63_8, fc63_9, fc63_10, fc63_11, fc63_12, fc63_13, fc63_14, fc63_15, fc63_16,
                fc63_17, fc63_18, fc63_19, fc63_20, fc63_21, fc63_22, fc63_23, fc63_24, fc63_25, cast_lit, toNat_lit, Int.reduceAdd, Int.reduceSub, Int.reduceMul, Int.reduceNeg,
                Int.reducePow, Nat.reducePow, Int.reduceToNat, Nat.reduceSub, Nat.mul_one, Int.toNat_zero, prod_eta, List.nil_append, List.cons_append, List.append_nil, Int.le_refl,
                Nat.le_refl, true_implies, take_all, vconv, vmm, vidxA, viaddrA, iaddr_sl, iaddr_lsl, getE, vfield, vlen, fillC, fillE, List.replicate, elemsOf, List.length_map,
                f2iK_eq, bits_i64, bits_i32, bits_u64, bits_u32, bits_u8, e_mov, g_mov, e_pick, g_pick, e_alloc, g_alloc, e_box, g_box, e_build, g_build, e_load, g_load, e_store,
                g_store, e_bin, g_bin, e_un, g_un, e_conv, g_conv, e_faddr, g_faddr, e_call, g_call, g_spec_l01Long, g_spec_l01Finite, g_spec_l01Narrow, g_spec_l02No,
                g_spec_l01SineWide, dF32_map, dF64_map, dI64_map, dU8_map, dBool_map, dStr_map, decL, dF32, dF64, dI64, dU8, dBool, dStr, ↓b_pick, ePk_true, ePk_false]
      repeat' (first
        | ((first | (refine eGI_of (fun h => ?_) (fun h => ?_)) | (refine eCc_of (fun h => ?_) (fun h => ?_)) | (refine ePk_of (fun h => ?_) (fun h => ?_))) <;> (try simp only [Bool.not_eq_true', Bool.not_eq_false'] at h) <;> (try simp only [h, reduceCtorEq, Bool.not_eq_true', decide_eq_false_iff_not, Bool.not_true, Bool.not_false, Bool.false_or, Bool.true_or, Bool.true_and, Bool.false_and, Bool.and_eq_true, Bool.or_eq_true, if_true, if_false, reduceIte, Bool.false_eq_true, and_true, true_and, false_or, or_false, decide_eq_true_eq, not_false_eq_true, not_true_eq_false] at hp) <;> (try (have h2 := h; simp only [decide_eq_true_eq, decide_eq_false_iff_not] at h2; (first | (replace h2 := eq_false h2) | (replace h2 := eq_true h2)); simp only [h2, if_true, if_false, false_or, true_or, or_true, or_false, and_true, true_and, not_false_eq_true, not_true_eq_false] at hp)) <;> simp only [h,
          hp, eA_seq, eA_reg, eA_ret, eA_skip, eA_cond, eA_block, eA_exit, eCc_true, eCc_false, Kq_normal, Kq_ret, Kq_exit, Kb_normal, Kb_exit, Kb_ret, Kreg_eq, eI_nil, bindSt_some,
                bindSt_none, bindSt_ite, eR_eq, eGI_tt, eGI_ff, eGI_tf, eGI_ft, eop, vop, ev_t, ev_c, ev_f, Option.map, put_some, put_none, set_eq, setH_eq, get_eq, hp_eq,
                keep_cons, keep_nil, lk_cons, lk_nil, startSt, envOf, reduceIte, Nat.reduceEqDiff, Nat.reduceAdd, Nat.zero_add, Nat.add_zero, Nat.reduceMul, Nat.reduceLT,
                Nat.reduceLeDiff, bop, uop, intop, fltop, convop, true_or, or_true, Bool.false_eq_true, ret_ok, ret_normal, outV, rvV, rvs, ex_some, pureV, pureX, pureX.pure1',
                pure1, Bool.true_and, Bool.false_and, Bool.and_true, Bool.and_false, Option.isNone_none, AV.cells, AV.one, storable, laid, refless, refless1, List.all_cons,
                List.all_nil, List.length_cons, List.length_nil, List.getElem?_cons_zero, List.getElem?_cons_succ, List.set_cons_zero, List.set_cons_succ, List.set_nil,
                List.map_cons, List.map_nil, vload, loadC, storeC, vnil, vfaddr, vextract, callTo, List.mapM_cons, List.mapM_nil, Option.pure_def, Option.bind_eq_bind,
                Option.bind_some, tabOf_cons, flatT, flatE, flatC, and_self, and_true, true_and, implies_true, forall_const, not_true_eq_false, not_false_eq_true, false_implies,
                List.take_succ_cons, List.drop_succ_cons, List.take_zero, List.drop_zero, Bool.not_true, Bool.not_false, beq_self_eq_true, decide_true, decide_false, eq_self,
                Int.reduceEq, Int.reduceLE, Int.reduceLT, Bool.not_not, Bool.true_or, Bool.or_true, Bool.false_or, Bool.or_false, if_true, if_false, List.getElem?_nil, Kl_normal,
                Kl_exit, Kl_ret, fc63_0, fc63_1, fc63_2, fc63_3, fc63_4, fc63_5, fc63_6, fc63_7, fc63_8, fc63_9, fc63_10, fc63_11, fc63_12, fc63_13, fc63_14, fc63_15, fc63_16,
                fc63_17, fc63_18, fc63_19, fc63_20, fc63_21, fc63_22, fc63_23, fc63_24, fc63_25, cast_lit, toNat_lit, Int.reduceAdd, Int.reduceSub, Int.reduceMul, Int.reduceNeg,
                Int.reducePow, Nat.reducePow, Int.reduceToNat, Nat.reduceSub, Nat.mul_one, Int.toNat_zero, prod_eta, List.nil_append, List.cons_append, List.append_nil, Int.le_refl,
                Nat.le_refl, true_implies, take_all, vconv, vmm, vidxA, viaddrA, iaddr_sl, iaddr_lsl, getE, vfield, vlen, fillC, fillE, List.replicate, elemsOf, List.length_map,
                f2iK_eq, bits_i64, bits_i32, bits_u64, bits_u32, bits_u8, e_mov, g_mov, e_pick, g_pick, e_alloc, g_alloc, e_box, g_box, e_build, g_build, e_load, g_load, e_store,
                g_store, e_bin, g_bin, e_un, g_un, e_conv, g_conv, e_faddr, g_faddr, e_call, g_call, g_spec_l01Long, g_spec_l01Finite, g_spec_l01Narrow, g_spec_l02No,
                g_spec_l01SineWide, dF32_map, dF64_map, dI64_map, dU8_map, dBool_map, dStr_map, decL, dF32, dF64, dI64, dU8, dBool, dStr, ↓b_pick, ePk_true, ePk_false]))
      all_goals (try simp only [*, m_spec_l02About, Bool.and_true, Bool.true_and, Bool.and_false, Bool.false_and, Bool.or_true, Bool.true_or, Bool.or_false, Bool.false_or, Bool.not_true, Bool.not_false, Bool.false_eq_true, if_true, if_false, reduceIte, decide_true, decide_false])
      all_goals (try (simp_all; done))
    · cases h
  · cases h
def m_spec_l04Limit (x0 : (Nat × Nat × Nat × Nat)) (x1 : Nat) : (Nat × Nat × Nat × Nat) := (if (flt .f32 x1 (m_spec_l02Angle x0)) = true then (m_spec_l02About (m_spec_l04Axis x0)
      x1) else x0)
def p_spec_l04Limit (x0 : (Nat × Nat × Nat × Nat)) (x1 : Nat) : Bool := ((p_spec_l02Angle x0) && (!(flt .f32 x1 (m_spec_l02Angle x0)) || ((p_spec_l04Axis x0) && (p_spec_l02About
      (m_spec_l04Axis x0) x1))))
def g_spec_l04Limit : List AV → Option AV
  | [.agg [.flt .f32 y0, .flt .f32 y1, .flt .f32 y2, .flt .f32 y3], .flt .f32 y4] => if p_spec_l04Limit (y0, y1, y2, y3) y4 = true then
      some (AV.agg [(.flt .f32 (m_spec_l04Limit (y0, y1, y2, y3) y4).1), (.flt .f32 (m_spec_l04Limit (y0, y1, y2, y3) y4).2.1), (.flt .f32 (m_spec_l04Limit (y0, y1, y2, y3)
      y4).2.2.1), (.flt .f32 (m_spec_l04Limit (y0, y1, y2, y3) y4).2.2.2)]) else none
  | _ => none
def ic66 : ICode := (.seq (.reg [⟨(some 2), none, (.box 4 (.t 0))⟩, ⟨(some 4), none, (.alloc (.agg [(.flt .f32 0), (.flt .f32 0), (.flt .f32 0), (.flt .f32 0)]))⟩] [1, 2, 4]) (.seq
      (.seq (.reg [⟨(some 5), none, (.load (some 4) (.t 2))⟩, ⟨(some 6), none, (.call (.fn 84) [(.t 5)] [])⟩, ⟨(some 7), none, (.mov (.t 1))⟩, ⟨(some 8), none, (.bin .gtr false (.t
      6) (.t 7))⟩] [1, 2, 4, 8]) (.cond (.t 8) (.seq (.reg [⟨(some 9), none, (.load (some 4) (.t 2))⟩, ⟨(some 10), none, (.call (.fn 85) [(.t 9)] [])⟩, ⟨(some 11), none, (.mov (.t
      1))⟩, ⟨(some 12), none, (.call (.fn 63) [(.t 10), (.t 11)] [])⟩, ⟨none, none, (.store 4 (.t 4) (.t 12))⟩] [4]) .ret) .skip)) (.seq (.reg [⟨(some 13), none, (.load (some 4) (.t
      2))⟩, ⟨none, none, (.store 4 (.t 4) (.t 13))⟩] [4]) .ret)))
def cp66 : CP := { n := 14, kp := [[1, 2, 4], [1, 2, 4, 8], [4], [4]] }
theorem fc66_0 : IntKind.wrap .i64 (-1) = (-1) := by decide
theorem fc66_1 : IntKind.wrap .i64 0 = 0 := by decide
theorem fc66_2 : IntKind.wrap .i64 1 = 1 := by decide
theorem fc66_3 : IntKind.wrap .i64 10 = 10 := by decide
theorem fc66_4 : IntKind.wrap .i64 11 = 11 := by decide
theorem fc66_5 : IntKind.wrap .i64 110 = 110 := by decide
theorem fc66_6 : IntKind.wrap .i64 12 = 12 := by decide
theorem fc66_7 : IntKind.wrap .i64 13 = 13 := by decide
theorem fc66_8 : IntKind.wrap .i64 14 = 14 := by decide
theorem fc66_9 : IntKind.wrap .i64 15 = 15 := by decide
theorem fc66_10 : IntKind.wrap .i64 156 = 156 := by decide
theorem fc66_11 : IntKind.wrap .i64 16 = 16 := by decide
theorem fc66_12 : IntKind.wrap .i64 17 = 17 := by decide
theorem fc66_13 : IntKind.wrap .i64 2 = 2 := by decide
theorem fc66_14 : IntKind.wrap .i64 20 = 20 := by decide
theorem fc66_15 : IntKind.wrap .i64 210 = 210 := by decide
theorem fc66_16 : IntKind.wrap .i64 272 = 272 := by decide
theorem fc66_17 : IntKind.wrap .i64 3 = 3 := by decide
theorem fc66_18 : IntKind.wrap .i64 4 = 4 := by decide
theorem fc66_19 : IntKind.wrap .i64 42 = 42 := by decide
theorem fc66_20 : IntKind.wrap .i64 5 = 5 := by decide
theorem fc66_21 : IntKind.wrap .i64 6 = 6 := by decide
theorem fc66_22 : IntKind.wrap .i64 7 = 7 := by decide
theorem fc66_23 : IntKind.wrap .i64 72 = 72 := by decide
theorem fc66_24 : IntKind.wrap .i64 8 = 8 := by decide
theorem fc66_25 : IntKind.wrap .i64 9 = 9 := by decide
theorem s66 : ∀ vs r, g_spec_l04Limit vs = some r → Says Try.prog 66 vs r := by
  intro vs r h
  unfold g_spec_l04Limit at h
  split at h
  · rename_i y0 y1 y2 y3 y4
    split at h
    · rename_i hp
      cases h
      refine spec_of (tab := tabOf [(63, g_spec_l02About), (84, g_spec_l02Angle), (85, g_spec_l04Axis)]) (cp := cp66) (ic := ic66) (rvl := [(.c 4 (some 4))]) hm (tabOk_cons s63 (tabOk_cons s84 (tabOk_cons s85 tabOk_nil))) Try.func66 rfl rfl rfl (by kernel_rfl) rfl (Nat.le_of_ble_eq_true rfl) ?_
      show eA _ _ _ _
      unfold ic66
      simp only [p_spec_l04Limit, Bool.and_eq_true, Bool.or_eq_true, decide_eq_true_eq, Bool.not_eq_true', decide_eq_false_iff_not] at hp
      simp only [
          hp, eA_seq, eA_reg, eA_ret, eA_skip, eA_cond, eA_block, eA_exit, eCc_true, eCc_false, Kq_normal, Kq_ret, Kq_exit, Kb_normal, Kb_exit, Kb_ret, Kreg_eq, eI_nil, bindSt_some,
                bindSt_none, bindSt_ite, eR_eq, eGI_tt, eGI_ff, eGI_tf, eGI_ft, eop, vop, ev_t, ev_c, ev_f, Option.map, put_some, put_none, set_eq, setH_eq, get_eq, hp_eq,
                keep_cons, keep_nil, lk_cons, lk_nil, startSt, envOf, reduceIte, Nat.reduceEqDiff, Nat.reduceAdd, Nat.zero_add, Nat.add_zero, Nat.reduceMul, Nat.reduceLT,
                Nat.reduceLeDiff, bop, uop, intop, fltop, convop, true_or, or_true, Bool.false_eq_true, ret_ok, ret_normal, outV, rvV, rvs, ex_some, pureV, pureX, pureX.pure1',
                pure1, Bool.true_and, Bool.false_and, Bool.and_true, Bool.and_false, Option.isNone_none, AV.cells, AV.one, storable, laid, refless, refless1, List.all_cons,
                List.all_nil, List.length_cons, List.length_nil, List.getElem?_cons_zero, List.getElem?_cons_succ, List.set_cons_zero, List.set_cons_succ, List.set_nil,
                List.map_cons, List.map_nil, vload, loadC, storeC, vnil, vfaddr, vextract, callTo, List.mapM_cons, List.mapM_nil, Option.pure_def, Option.bind_eq_bind,
                Option.bind_some, tabOf_cons, flatT, flatE, flatC, and_self, and_true, true_and, implies_true, forall_const, not_true_eq_false, not_false_eq_true, false_implies,
                List.take_succ_cons, List.drop_succ_cons, List.take_zero, List.drop_zero, Bool.not_true, Bool.not_false, beq_self_eq_true, decide_true, decide_false, eq_self,
                Int.reduceEq, Int.reduceLE, Int.reduceLT, Bool.not_not, Bool.true_or, Bool.or_true, Bool.false_or, Bool.or_false, if_true, if_false, List.getElem?_nil, Kl_normal,
                Kl_exit, Kl_ret, fc66_0, fc66_1, fc66_2, fc66_3, fc66_4, fc66_5, fc66_6, fc66_7, fc66_8, fc66_9, fc66_10, fc66_11, fc66_12, fc66_13, fc66_14, fc66_15, fc66_16,
                fc66_17, fc66_18, fc66_19, fc66_20, fc66_21, fc66_22, fc66_23, fc66_24, fc66_25, cast_lit, toNat_lit, Int.reduceAdd, Int.reduceSub, Int.reduceMul, Int.reduceNeg,
                Int.reducePow, Nat.reducePow, Int.reduceToNat, Nat.reduceSub, Nat.mul_one, Int.toNat_zero, prod_eta, List.nil_append, List.cons_append, List.append_nil, Int.le_refl,
                Nat.le_refl, true_implies, take_all, vconv, vmm, vidxA, viaddrA, iaddr_sl, iaddr_lsl, getE, vfield, vlen, fillC, fillE, List.replicate, elemsOf, List.length_map,
                f2iK_eq, bits_i64, bits_i32, bits_u64, bits_u32, bits_u8, e_mov, g_mov, e_alloc, g_alloc, e_box, g_box, e_load, g_load, e_store, g_store, e_bin, g_bin, e_call,
                g_call, g_spec_l02About, g_spec_l02Angle, g_spec_l04Axis, dF32_map, dF64_map, dI64_map, dU8_map, dBool_map, dStr_map, decL, dF32, dF64, dI64, dU8, dBool, dStr]
      repeat' (first
        | ((first | (refine eGI_of (fun h => ?_) (fun h => ?_)) | (refine eCc_of (fun h => ?_) (fun h => ?_))) <;> (try simp only [Bool.not_eq_true', Bool.not_eq_false'] at h) <;> (try simp only [h, reduceCtorEq, Bool.not_eq_true', decide_eq_false_iff_not, Bool.not_true, Bool.not_false, Bool.false_or, Bool.true_or, Bool.true_and, Bool.false_and, Bool.and_eq_true, Bool.or_eq_true, if_true, if_false, reduceIte, Bool.false_eq_true, and_true, true_and, false_or, or_false, decide_eq_true_eq, not_false_eq_true, not_true_eq_false] at hp) <;> (try (have h2 := h; simp only [decide_eq_true_eq, decide_eq_false_iff_not] at h2; (first | (replace h2 := eq_false h2) | (replace h2 := eq_true h2)); simp only [h2, if_true, if_false, false_or, true_or, or_true, or_false, and_true, true_and, not_false_eq_true, not_true_eq_false] at hp)) <;> simp only [h,
          hp, eA_seq, eA_reg, eA_ret, eA_skip, eA_cond, eA_block, eA_exit, eCc_true, eCc_false, Kq_normal, Kq_ret, Kq_exit, Kb_normal, Kb_exit, Kb_ret, Kreg_eq, eI_nil, bindSt_some,
                bindSt_none, bindSt_ite, eR_eq, eGI_tt, eGI_ff, eGI_tf, eGI_ft, eop, vop, ev_t, ev_c, ev_f, Option.map, put_some, put_none, set_eq, setH_eq, get_eq, hp_eq,
                keep_cons, keep_nil, lk_cons, lk_nil, startSt, envOf, reduceIte, Nat.reduceEqDiff, Nat.reduceAdd, Nat.zero_add, Nat.add_zero, Nat.reduceMul, Nat.reduceLT,
                Nat.reduceLeDiff, bop, uop, intop, fltop, convop, true_or, or_true, Bool.false_eq_true, ret_ok, ret_normal, outV, rvV, rvs, ex_some, pureV, pureX, pureX.pure1',
                pure1, Bool.true_and, Bool.false_and, Bool.and_true, Bool.and_false, Option.isNone_none, AV.cells, AV.one, storable, laid, refless, refless1, List.all_cons,
                List.all_nil, List.length_cons, List.length_nil, List.getElem?_cons_zero, List.getElem?_cons_succ, List.set_cons_zero, List.set_cons_succ, List.set_nil,
                List.map_cons, List.map_nil, vload, loadC, storeC, vnil, vfaddr, vextract, callTo, List.mapM_cons, List.mapM_nil, Option.pure_def, Option.bind_eq_bind,
                Option.bind_some, tabOf_cons, flatT, flatE, flatC, and_self, and_true, true_and, implies_true, forall_const, not_true_eq_false, not_false_eq_true, false_implies,
                List.take_succ_cons, List.drop_succ_cons, List.take_zero, List.drop_zero, Bool.not_true, Bool.not_false, beq_self_eq_true, decide_true, decide_false, eq_self,
                Int.reduceEq, Int.reduceLE, Int.reduceLT, Bool.not_not, Bool.true_or, Bool.or_true, Bool.false_or, Bool.or_false, if_true, if_false, List.getElem?_nil, Kl_normal,
                Kl_exit, Kl_ret, fc66_0, fc66_1, fc66_2, fc66_3, fc66_4, fc66_5, fc66_6, fc66_7, fc66_8, fc66_9, fc66_10, fc66_11, fc66_12, fc66_13, fc66_14, fc66_15, fc66_16,
                fc66_17, fc66_18, fc66_19, fc66_20, fc66_21, fc66_22, fc66_23, fc66_24, fc66_25, cast_lit, toNat_lit, Int.reduceAdd, Int.reduceSub, Int.reduceMul, Int.reduceNeg,
                Int.reducePow, Nat.reducePow, Int.reduceToNat, Nat.reduceSub, Nat.mul_one, Int.toNat_zero, prod_eta, List.nil_append, List.cons_append, List.append_nil, Int.le_refl,
                Nat.le_refl, true_implies, take_all, vconv, vmm, vidxA, viaddrA, iaddr_sl, iaddr_lsl, getE, vfield, vlen, fillC, fillE, List.replicate, elemsOf, List.length_map,
                f2iK_eq, bits_i64, bits_i32, bits_u64, bits_u32, bits_u8, e_mov, g_mov, e_alloc, g_alloc, e_box, g_box, e_load, g_load, e_store, g_store, e_bin, g_bin, e_call,
                g_call, g_spec_l02About, g_spec_l02Angle, g_spec_l04Axis, dF32_map, dF64_map, dI64_map, dU8_map, dBool_map, dStr_map, decL, dF32, dF64, dI64, dU8, dBool, dStr]))
      all_goals (try simp only [*, m_spec_l04Limit, Bool.and_true, Bool.true_and, Bool.and_false, Bool.false_and, Bool.or_true, Bool.true_or, Bool.or_false, Bool.false_or, Bool.not_true, Bool.not_false, Bool.false_eq_true, if_true, if_false, reduceIte, decide_true, decide_false])
      all_goals (try (simp_all; done))
    · cases h
  · cases h
def m_spec_LookAt (x0 : (Nat × Nat × Nat)) (x1 : (Nat × Nat × Nat)) (x2 : (Nat × Nat × Nat)) (x3 : Nat) : (Nat × Nat × Nat × Nat) := (m_spec_l04Limit (m_spec_l02Between x2
      (m_spec_l01Less x1 x0)) x3)
def p_spec_LookAt (x0 : (Nat × Nat × Nat)) (x1 : (Nat × Nat × Nat)) (x2 : (Nat × Nat × Nat)) (x3 : Nat) : Bool := ((p_spec_l02Between x2 (m_spec_l01Less x1 x0)) && (p_spec_l04Limit
      (m_spec_l02Between x2 (m_spec_l01Less x1 x0)) x3))
def g_spec_LookAt : List AV → Option AV
  | [.agg [.flt .f32 y0, .flt .f32 y1, .flt .f32 y2], .agg [.flt .f32 y3, .flt .f32 y4, .flt .f32 y5], .agg [.flt .f32 y6, .flt .f32 y7, .flt
      .f32 y8], .flt .f32 y9] => if p_spec_LookAt (y0, y1, y2) (y3, y4, y5) (y6, y7, y8) y9 = true then some (AV.agg [(.flt .f32 (m_spec_LookAt (y0, y1, y2) (y3, y4, y5) (y6, y7,
      y8) y9).1), (.flt .f32 (m_spec_LookAt (y0, y1, y2) (y3, y4, y5) (y6, y7, y8) y9).2.1), (.flt .f32 (m_spec_LookAt (y0, y1, y2) (y3, y4, y5) (y6, y7, y8) y9).2.2.1), (.flt .f32
      (m_spec_LookAt (y0, y1, y2) (y3, y4, y5) (y6, y7, y8) y9).2.2.2)]) else none
  | _ => none
def ic33 : ICode := (.seq (.reg [⟨(some 4), none, (.box 3 (.t 0))⟩, ⟨(some 5), none, (.box 3 (.t 1))⟩, ⟨(some 6), none, (.box 3 (.t 2))⟩, ⟨(some 8), none, (.alloc (.agg [(.flt .f32
      0), (.flt .f32 0), (.flt .f32 0), (.flt .f32 0)]))⟩] [3, 4, 5, 6, 8]) (.seq (.reg [⟨(some 9), none, (.load (some 3) (.t 6))⟩, ⟨(some 10), none, (.load (some 3) (.t 5))⟩,
      ⟨(some 11), none, (.load (some 3) (.t 4))⟩, ⟨(some 12), none, (.call (.fn 38) [(.t 10), (.t 11)] [])⟩, ⟨(some 13), none, (.call (.fn 69) [(.t 9), (.t 12)] [])⟩, ⟨(some 14),
      none, (.mov (.t 3))⟩, ⟨(some 15), none, (.call (.fn 66) [(.t 13), (.t 14)] [])⟩, ⟨none, none, (.store 4 (.t 8) (.t 15))⟩] [8]) .ret))
def cp33 : CP := { n := 16, kp := [[3, 4, 5, 6, 8], [8]] }
theorem fc33_0 : IntKind.wrap .i64 (-1) = (-1) := by decide
theorem fc33_1 : IntKind.wrap .i64 0 = 0 := by decide
theorem fc33_2 : IntKind.wrap .i64 1 = 1 := by decide
theorem fc33_3 : IntKind.wrap .i64 10 = 10 := by decide
theorem fc33_4 : IntKind.wrap .i64 11 = 11 := by decide
theorem fc33_5 : IntKind.wrap .i64 110 = 110 := by decide
theorem fc33_6 : IntKind.wrap .i64 12 = 12 := by decide
theorem fc33_7 : IntKind.wrap .i64 13 = 13 := by decide
theorem fc33_8 : IntKind.wrap .i64 14 = 14 := by decide
theorem fc33_9 : IntKind.wrap .i64 15 = 15 := by decide
theorem fc33_10 : IntKind.wrap .i64 156 = 156 := by decide
theorem fc33_11 : IntKind.wrap .i64 16 = 16 := by decide
theorem fc33_12 : IntKind.wrap .i64 17 = 17 := by decide
theorem fc33_13 : IntKind.wrap .i64 2 = 2 := by decide
theorem fc33_14 : IntKind.wrap .i64 20 = 20 := by decide
theorem fc33_15 : IntKind.wrap .i64 210 = 210 := by decide
theorem fc33_16 : IntKind.wrap .i64 272 = 272 := by decide
theorem fc33_17 : IntKind.wrap .i64 3 = 3 := by decide
theorem fc33_18 : IntKind.wrap .i64 4 = 4 := by decide
theorem fc33_19 : IntKind.wrap .i64 42 = 42 := by decide
theorem fc33_20 : IntKind.wrap .i64 5 = 5 := by decide
theorem fc33_21 : IntKind.wrap .i64 6 = 6 := by decide
theorem fc33_22 : IntKind.wrap .i64 7 = 7 := by decide
theorem fc33_23 : IntKind.wrap .i64 72 = 72 := by decide
theorem fc33_24 : IntKind.wrap .i64 8 = 8 := by decide
theorem fc33_25 : IntKind.wrap .i64 9 = 9 := by decide
theorem s33 : ∀ vs r, g_spec_LookAt vs = some r → Says Try.prog 33 vs r := by
  intro vs r h
  unfold g_spec_LookAt at h
  split at h
  · rename_i y0 y1 y2 y3 y4 y5 y6 y7 y8 y9
    split at h
    · rename_i hp
      cases h
      refine spec_of (tab := tabOf [(38, g_spec_l01Less), (66, g_spec_l04Limit), (69, g_spec_l02Between)]) (cp := cp33) (ic := ic33) (rvl := [(.c 8 (some 4))]) hm (tabOk_cons s38 (tabOk_cons s66 (tabOk_cons s69 tabOk_nil))) Try.func33 rfl rfl rfl (by kernel_rfl) rfl (Nat.le_of_ble_eq_true rfl) ?_
      show eA _ _ _ _
      unfold ic33
      simp only [p_spec_LookAt, Bool.and_eq_true, Bool.or_eq_true, decide_eq_true_eq, Bool.not_eq_true', decide_eq_false_iff_not] at hp
      simp only [
          hp, eA_seq, eA_reg, eA_ret, eA_skip, eA_cond, eA_block, eA_exit, eCc_true, eCc_false, Kq_normal, Kq_ret, Kq_exit, Kb_normal, Kb_exit, Kb_ret, Kreg_eq, eI_nil, bindSt_some,
                bindSt_none, bindSt_ite, eR_eq, eGI_tt, eGI_ff, eGI_tf, eGI_ft, eop, vop, ev_t, ev_c, ev_f, Option.map, put_some, put_none, set_eq, setH_eq, get_eq, hp_eq,
                keep_cons, keep_nil, lk_cons, lk_nil, startSt, envOf, reduceIte, Nat.reduceEqDiff, Nat.reduceAdd, Nat.zero_add, Nat.add_zero, Nat.reduceMul, Nat.reduceLT,
                Nat.reduceLeDiff, bop, uop, intop, fltop, convop, true_or, or_true, Bool.false_eq_true, ret_ok, ret_normal, outV, rvV, rvs, ex_some, pureV, pureX, pureX.pure1',
                pure1, Bool.true_and, Bool.false_and, Bool.and_true, Bool.and_false, Option.isNone_none, AV.cells, AV.one, storable, laid, refless, refless1, List.all_cons,
                List.all_nil, List.length_cons, List.length_nil, List.getElem?_cons_zero, List.getElem?_cons_succ, List.set_cons_zero, List.set_cons_succ, List.set_nil,
                List.map_cons, List.map_nil, vload, loadC, storeC, vnil, vfaddr, vextract, callTo, List.mapM_cons, List.mapM_nil, Option.pure_def, Option.bind_eq_bind,
                Option.bind_some, tabOf_cons, flatT, flatE, flatC, and_self, and_true, true_and, implies_true, forall_const, not_true_eq_false, not_false_eq_true, false_implies,
                List.take_succ_cons, List.drop_succ_cons, List.take_zero, List.drop_zero, Bool.not_true, Bool.not_false, beq_self_eq_true, decide_true, decide_false, eq_self,
                Int.reduceEq, Int.reduceLE, Int.reduceLT, Bool.not_not, Bool.true_or, Bool.or_true, Bool.false_or, Bool.or_false, if_true, if_false, List.getElem?_nil, Kl_normal,
                Kl_exit, Kl_ret, fc33_0, fc33_1, fc33_2, fc33_3, fc33_4, fc33_5, fc33_6, fc33_7, fc33_8, fc33_9, fc33_10, fc33_11, fc33_12, fc33_13, fc33_14, fc33_15, fc33_16,
                fc33_17, fc33_18, fc33_19, fc33_20, fc33_21, fc33_22, fc33_23, fc33_24, fc33_25, cast_lit, toNat_lit, Int.reduceAdd, Int.reduceSub, Int.reduceMul, Int.reduceNeg,
                Int.reducePow, Nat.reducePow, Int.reduceToNat, Nat.reduceSub, Nat.mul_one, Int.toNat_zero, prod_eta, List.nil_append, List.cons_append, List.append_nil, Int.le_refl,
                Nat.le_refl, true_implies, take_all, vconv, vmm, vidxA, viaddrA, iaddr_sl, iaddr_lsl, getE, vfield, vlen, fillC, fillE, List.replicate, elemsOf, List.length_map,
                f2iK_eq, bits_i64, bits_i32, bits_u64, bits_u32, bits_u8, e_mov, g_mov, e_alloc, g_alloc, e_box, g_box, e_load, g_load, e_store, g_store, e_call, g_call,
                g_spec_l01Less, g_spec_l04Limit, g_spec_l02Between, dF32_map, dF64_map, dI64_map, dU8_map, dBool_map, dStr_map, decL, dF32, dF64, dI64, dU8, dBool, dStr]
      repeat' (first
        | ((first | (refine eGI_of (fun h => ?_) (fun h => ?_)) | (refine eCc_of (fun h => ?_) (fun h => ?_))) <;> (try simp only [Bool.not_eq_true', Bool.not_eq_false'] at h) <;> (try simp only [h, reduceCtorEq, Bool.not_eq_true', decide_eq_false_iff_not, Bool.not_true, Bool.not_false, Bool.false_or, Bool.true_or, Bool.true_and, Bool.false_and, Bool.and_eq_true, Bool.or_eq_true, if_true, if_false, reduceIte, Bool.false_eq_true, and_true, true_and, false_or, or_false, decide_eq_true_eq, not_false_eq_true, not_true_eq_false] at hp) <;> (try (have h2 := h; simp only [decide_eq_true_eq, decide_eq_false_iff_not] at h2; (first | (replace h2 := eq_false h2) | (replace h2 := eq_true h2)); simp only [h2, if_true, if_false, false_or, true_or, or_true, or_false, and_true, true_and, not_false_eq_true, not_true_eq_false] at hp)) <;> simp only [h,
          hp, eA_seq, eA_reg, eA_ret, eA_skip, eA_cond, eA_block, eA_exit, eCc_true, eCc_false, Kq_normal, Kq_ret, Kq_exit, Kb_normal, Kb_exit, Kb_ret, Kreg_eq, eI_nil, bindSt_some,
                bindSt_none, bindSt_ite, eR_eq, eGI_tt, eGI_ff, eGI_tf, eGI_ft, eop, vop, ev_t, ev_c, ev_f, Option.map, put_some, put_none, set_eq, setH_eq, get_eq, hp_eq,
                keep_cons, keep_nil, lk_cons, lk_nil, startSt, envOf, reduceIte, Nat.reduceEqDiff, Nat.reduceAdd, Nat.zero_add, Nat.add_zero, Nat.reduceMul, Nat.reduceLT,
                Nat.reduceLeDiff, bop, uop, intop, fltop, convop, true_or, or_true, Bool.false_eq_true, ret_ok, ret_normal, outV, rvV, rvs, ex_some, pureV, pureX, pureX.pure1',
                pure1, Bool.true_and, Bool.false_and, Bool.and_true, Bool.and_false, Option.isNone_none, AV.cells, AV.one, storable, laid, refless, refless1, List.all_cons,
                List.all_nil, List.length_cons, List.length_nil, List.getElem?_cons_zero, List.getElem?_cons_succ, List.set_cons_zero, List.set_cons_succ, List.set_nil,
                List.map_cons, List.map_nil, vload, loadC, storeC, vnil, vfaddr, vextract, callTo, List.mapM_cons, List.mapM_nil, Option.pure_def, Option.bind_eq_bind,
                Option.bind_some, tabOf_cons, flatT, flatE, flatC, and_self, and_true, true_and, implies_true, forall_const, not_true_eq_false, not_false_eq_true, false_implies,
                List.take_succ_cons, List.drop_succ_cons, List.take_zero, List.drop_zero, Bool.not_true, Bool.not_false, beq_self_eq_true, decide_true, decide_false, eq_self,
                Int.reduceEq, Int.reduceLE, Int.reduceLT, Bool.not_not, Bool.true_or, Bool.or_true, Bool.false_or, Bool.or_false, if_true, if_false, List.getElem?_nil, Kl_normal,
                Kl_exit, Kl_ret, fc33_0, fc33_1, fc33_2, fc33_3, fc33_4, fc33_5, fc33_6, fc33_7, fc33_8, fc33_9, fc33_10, fc33_11, fc33_12, fc33_13, fc33_14, fc33_15, fc33_16,
                fc33_17, fc33_18, fc33_19, fc33_20, fc33_21, fc33_22, fc33_23, fc33_24, fc33_25, cast_lit, toNat_lit, Int.reduceAdd, Int.reduceSub, Int.reduceMul, Int.reduceNeg,
                Int.reducePow, Nat.reducePow, Int.reduceToNat, Nat.reduceSub, Nat.mul_one, Int.toNat_zero, prod_eta, List.nil_append, List.cons_append, List.append_nil, Int.le_refl,
                Nat.le_refl, true_implies, take_all, vconv, vmm, vidxA, viaddrA, iaddr_sl, iaddr_lsl, getE, vfield, vlen, fillC, fillE, List.replicate, elemsOf, List.length_map,
                f2iK_eq, bits_i64, bits_i32, bits_u64, bits_u32, bits_u8, e_mov, g_mov, e_alloc, g_alloc, e_box, g_box, e_load, g_load, e_store, g_store, e_call, g_call,
                g_spec_l01Less, g_spec_l04Limit, g_spec_l02Between, dF32_map, dF64_map, dI64_map, dU8_map, dBool_map, dStr_map, decL, dF32, dF64, dI64, dU8, dBool, dStr]))
      all_goals (try simp only [*, m_spec_LookAt, Bool.and_true, Bool.true_and, Bool.and_false, Bool.false_and, Bool.or_true, Bool.true_or, Bool.or_false, Bool.false_or, Bool.not_true, Bool.not_false, Bool.false_eq_true, if_true, if_false, reduceIte, decide_true, decide_false])
      all_goals (try (simp_all; done))
    · cases h
  · cases h
def m_impl_LessVectors (x0 : (Nat × Nat × Nat)) (x1 : (Nat × Nat × Nat)) : (Nat × Nat × Nat) := ((fsub .f32 x0.1 x1.1), (fsub .f32 x0.2.1 x1.2.1), (fsub .f32 x0.2.2 x1.2.2))
def g_impl_LessVectors : List AV → Option AV
  | [.agg [.flt .f32 y0, .flt .f32 y1, .flt .f32 y2], .agg [.flt .f32 y3, .flt .f32 y4, .flt .f32 y5]] => some (AV.agg [(.flt .f32
      (m_impl_LessVectors (y0, y1, y2) (y3, y4, y5)).1), (.flt .f32 (m_impl_LessVectors (y0, y1, y2) (y3, y4, y5)).2.1), (.flt .f32 (m_impl_LessVectors (y0, y1, y2) (y3, y4,
      y5)).2.2)])
  | _ => none
def ic47 : ICode := (.seq (.reg [⟨(some 2), none, (.box 3 (.t 0))⟩, ⟨(some 3), none, (.box 3 (.t 1))⟩, ⟨(some 4), none, (.alloc (.agg [(.flt .f32 0), (.flt .f32 0), (.flt .f32
      0)]))⟩] [2, 3, 4]) (.seq (.reg [⟨(some 5), none, (.faddr 0 (.t 2))⟩, ⟨(some 6), none, (.load none (.t 5))⟩, ⟨(some 7), none, (.faddr 0 (.t 3))⟩, ⟨(some 8), none, (.load none
      (.t 7))⟩, ⟨(some 9), none, (.bin .sub false (.t 6) (.t 8))⟩, ⟨(some 10), none, (.faddr 1 (.t 2))⟩, ⟨(some 11), none, (.load none (.t 10))⟩, ⟨(some 12), none, (.faddr 1 (.t
      3))⟩, ⟨(some 13), none, (.load none (.t 12))⟩, ⟨(some 14), none, (.bin .sub false (.t 11) (.t 13))⟩, ⟨(some 15), none, (.faddr 2 (.t 2))⟩, ⟨(some 16), none, (.load none (.t
      15))⟩, ⟨(some 17), none, (.faddr 2 (.t 3))⟩, ⟨(some 18), none, (.load none (.t 17))⟩, ⟨(some 19), none, (.bin .sub false (.t 16) (.t 18))⟩, ⟨(some 20), none, (.build [(.flt
      .f32 0), (.flt .f32 0), (.flt .f32 0)] [(0, 1, (.t 9)), (1, 1, (.t 14)), (2, 1, (.t 19))])⟩, ⟨none, none, (.store 3 (.t 4) (.t 20))⟩] [4]) .ret))
def cp47 : CP := { n := 21, kp := [[2, 3, 4], [4]] }
theorem fc47_0 : IntKind.wrap .i64 (-1) = (-1) := by decide
theorem fc47_1 : IntKind.wrap .i64 0 = 0 := by decide
theorem fc47_2 : IntKind.wrap .i64 1 = 1 := by decide
theorem fc47_3 : IntKind.wrap .i64 10 = 10 := by decide
theorem fc47_4 : IntKind.wrap .i64 11 = 11 := by decide
theorem fc47_5 : IntKind.wrap .i64 110 = 110 := by decide
theorem fc47_6 : IntKind.wrap .i64 12 = 12 := by decide
theorem fc47_7 : IntKind.wrap .i64 13 = 13 := by decide
theorem fc47_8 : IntKind.wrap .i64 14 = 14 := by decide
theorem fc47_9 : IntKind.wrap .i64 15 = 15 := by decide
theorem fc47_10 : IntKind.wrap .i64 156 = 156 := by decide
theorem fc47_11 : IntKind.wrap .i64 16 = 16 := by decide
theorem fc47_12 : IntKind.wrap .i64 17 = 17 := by decide
theorem fc47_13 : IntKind.wrap .i64 2 = 2 := by decide
theorem fc47_14 : IntKind.wrap .i64 20 = 20 := by decide
theorem fc47_15 : IntKind.wrap .i64 210 = 210 := by decide
theorem fc47_16 : IntKind.wrap .i64 272 = 272 := by decide
theorem fc47_17 : IntKind.wrap .i64 3 = 3 := by decide
theorem fc47_18 : IntKind.wrap .i64 4 = 4 := by decide
theorem fc47_19 : IntKind.wrap .i64 42 = 42 := by decide
theorem fc47_20 : IntKind.wrap .i64 5 = 5 := by decide
theorem fc47_21 : IntKind.wrap .i64 6 = 6 := by decide
theorem fc47_22 : IntKind.wrap .i64 7 = 7 := by decide
theorem fc47_23 : IntKind.wrap .i64 72 = 72 := by decide
theorem fc47_24 : IntKind.wrap .i64 8 = 8 := by decide
theorem fc47_25 : IntKind.wrap .i64 9 = 9 := by decide
theorem s47 : ∀ vs r, g_impl_LessVectors vs = some r → Says Try.prog 47 vs r := by
  intro vs r h
  unfold g_impl_LessVectors at h
  split at h
  · rename_i y0 y1 y2 y3 y4 y5
    cases h
    refine spec_of (tab := tabOf []) (cp := cp47) (ic := ic47) (rvl := [(.c 4 (some 3))]) hm tabOk_nil Try.func47 rfl rfl rfl (by kernel_rfl) rfl (Nat.le_of_ble_eq_true rfl) ?_
    show eA _ _ _ _
    unfold ic47
    simp only [
        eA_seq, eA_reg, eA_ret, eA_skip, eA_cond, eA_block, eA_exit, eCc_true, eCc_false, Kq_normal, Kq_ret, Kq_exit, Kb_normal, Kb_exit, Kb_ret, Kreg_eq, eI_nil, bindSt_some,
              bindSt_none, bindSt_ite, eR_eq, eGI_tt, eGI_ff, eGI_tf, eGI_ft, eop, vop, ev_t, ev_c, ev_f, Option.map, put_some, put_none, set_eq, setH_eq, get_eq, hp_eq, keep_cons,
              keep_nil, lk_cons, lk_nil, startSt, envOf, reduceIte, Nat.reduceEqDiff, Nat.reduceAdd, Nat.zero_add, Nat.add_zero, Nat.reduceMul, Nat.reduceLT, Nat.reduceLeDiff, bop,
              uop, intop, fltop, convop, true_or, or_true, Bool.false_eq_true, ret_ok, ret_normal, outV, rvV, rvs, ex_some, pureV, pureX, pureX.pure1', pure1, Bool.true_and,
              Bool.false_and, Bool.and_true, Bool.and_false, Option.isNone_none, AV.cells, AV.one, storable, laid, refless, refless1, List.all_cons, List.all_nil, List.length_cons,
              List.length_nil, List.getElem?_cons_zero, List.getElem?_cons_succ, List.set_cons_zero, List.set_cons_succ, List.set_nil, List.map_cons, List.map_nil, vload, loadC,
              storeC, vnil, vfaddr, vextract, callTo, List.mapM_cons, List.mapM_nil, Option.pure_def, Option.bind_eq_bind, Option.bind_some, tabOf_cons, flatT, flatE, flatC,
              and_self, and_true, true_and, implies_true, forall_const, not_true_eq_false, not_false_eq_true, false_implies, List.take_succ_cons, List.drop_succ_cons,
              List.take_zero, List.drop_zero, Bool.not_true, Bool.not_false, beq_self_eq_true, decide_true, decide_false, eq_self, Int.reduceEq, Int.reduceLE, Int.reduceLT,
              Bool.not_not, Bool.true_or, Bool.or_true, Bool.false_or, Bool.or_false, if_true, if_false, List.getElem?_nil, Kl_normal, Kl_exit, Kl_ret, fc47_0, fc47_1, fc47_2,
              fc47_3, fc47_4, fc47_5, fc47_6, fc47_7, fc47_8, fc47_9, fc47_10, fc47_11, fc47_12, fc47_13, fc47_14, fc47_15, fc47_16, fc47_17, fc47_18, fc47_19, fc47_20, fc47_21,
              fc47_22, fc47_23, fc47_24, fc47_25, cast_lit, toNat_lit, Int.reduceAdd, Int.reduceSub, Int.reduceMul, Int.reduceNeg, Int.reducePow, Nat.reducePow, Int.reduceToNat,
              Nat.reduceSub, Nat.mul_one, Int.toNat_zero, prod_eta, List.nil_append, List.cons_append, List.append_nil, Int.le_refl, Nat.le_refl, true_implies, take_all, vconv, vmm,
              vidxA, viaddrA, iaddr_sl, iaddr_lsl, getE, vfield, vlen, fillC, fillE, List.replicate, elemsOf, List.length_map, f2iK_eq, bits_i64, bits_i32, bits_u64, bits_u32,
              bits_u8, e_alloc, g_alloc, e_box, g_box, e_build, g_build, e_load, g_load, e_store, g_store, e_bin, g_bin, e_faddr, g_faddr, dF32_map, dF64_map, dI64_map, dU8_map,
              dBool_map, dStr_map, decL, dF32, dF64, dI64, dU8, dBool, dStr]
    repeat' (first
      | ((first | (refine eGI_of (fun h => ?_) (fun h => ?_)) | (refine eCc_of (fun h => ?_) (fun h => ?_))) <;> (try simp only [Bool.not_eq_true', Bool.not_eq_false'] at h) <;> simp only [h,
        eA_seq, eA_reg, eA_ret, eA_skip, eA_cond, eA_block, eA_exit, eCc_true, eCc_false, Kq_normal, Kq_ret, Kq_exit, Kb_normal, Kb_exit, Kb_ret, Kreg_eq, eI_nil, bindSt_some,
              bindSt_none, bindSt_ite, eR_eq, eGI_tt, eGI_ff, eGI_tf, eGI_ft, eop, vop, ev_t, ev_c, ev_f, Option.map, put_some, put_none, set_eq, setH_eq, get_eq, hp_eq, keep_cons,
              keep_nil, lk_cons, lk_nil, startSt, envOf, reduceIte, Nat.reduceEqDiff, Nat.reduceAdd, Nat.zero_add, Nat.add_zero, Nat.reduceMul, Nat.reduceLT, Nat.reduceLeDiff, bop,
              uop, intop, fltop, convop, true_or, or_true, Bool.false_eq_true, ret_ok, ret_normal, outV, rvV, rvs, ex_some, pureV, pureX, pureX.pure1', pure1, Bool.true_and,
              Bool.false_and, Bool.and_true, Bool.and_false, Option.isNone_none, AV.cells, AV.one, storable, laid, refless, refless1, List.all_cons, List.all_nil, List.length_cons,
              List.length_nil, List.getElem?_cons_zero, List.getElem?_cons_succ, List.set_cons_zero, List.set_cons_succ, List.set_nil, List.map_cons, List.map_nil, vload, loadC,
              storeC, vnil, vfaddr, vextract, callTo, List.mapM_cons, List.mapM_nil, Option.pure_def, Option.bind_eq_bind, Option.bind_some, tabOf_cons, flatT, flatE, flatC,
              and_self, and_true, true_and, implies_true, forall_const, not_true_eq_false, not_false_eq_true, false_implies, List.take_succ_cons, List.drop_succ_cons,
              List.take_zero, List.drop_zero, Bool.not_true, Bool.not_false, beq_self_eq_true, decide_true, decide_false, eq_self, Int.reduceEq, Int.reduceLE, Int.reduceLT,
              Bool.not_not, Bool.true_or, Bool.or_true, Bool.false_or, Bool.or_false, if_true, if_false, List.getElem?_nil, Kl_normal, Kl_exit, Kl_ret, fc47_0, fc47_1, fc47_2,
              fc47_3, fc47_4, fc47_5, fc47_6, fc47_7, fc47_8, fc47_9, fc47_10, fc47_11, fc47_12, fc47_13, fc47_14, fc47_15, fc47_16, fc47_17, fc47_18, fc47_19, fc47_20, fc47_21,
              fc47_22, fc47_23, fc47_24, fc47_25, cast_lit, toNat_lit, Int.reduceAdd, Int.reduceSub, Int.reduceMul, Int.reduceNeg, Int.reducePow, Nat.reducePow, Int.reduceToNat,
              Nat.reduceSub, Nat.mul_one, Int.toNat_zero, prod_eta, List.nil_append, List.cons_append, List.append_nil, Int.le_refl, Nat.le_refl, true_implies, take_all, vconv, vmm,
              vidxA, viaddrA, iaddr_sl, iaddr_lsl, getE, vfield, vlen, fillC, fillE, List.replicate, elemsOf, List.length_map, f2iK_eq, bits_i64, bits_i32, bits_u64, bits_u32,
              bits_u8, e_alloc, g_alloc, e_box, g_box, e_build, g_build, e_load, g_load, e_store, g_store, e_bin, g_bin, e_faddr, g_faddr, dF32_map, dF64_map, dI64_map, dU8_map,
              dBool_map, dStr_map, decL, dF32, dF64, dI64, dU8, dBool, dStr]))
    all_goals (try simp only [*, m_impl_LessVectors, Bool.and_true, Bool.true_and, Bool.and_false, Bool.false_and, Bool.or_true, Bool.true_or, Bool.or_false, Bool.false_or, Bool.not_true, Bool.not_false, Bool.false_eq_true, if_true, if_false, reduceIte, decide_true, decide_false])
    all_goals (try (simp_all; done))
  · cases h
def m_impl_InnerOf (x0 : (Nat × Nat × Nat)) (x1 : (Nat × Nat × Nat)) : Nat := (fadd .f32 (fadd .f32 (fmul .f32 x0.1 x1.1) (fmul .f32 x0.2.1 x1.2.1)) (fmul .f32 x0.2.2 x1.2.2))
def g_impl_InnerOf : List AV → Option AV
  | [.agg [.flt .f32 y0, .flt .f32 y1, .flt .f32 y2], .agg [.flt .f32 y3, .flt .f32 y4, .flt .f32 y5]] => some (.flt .f32 (m_impl_InnerOf
      (y0, y1, y2) (y3, y4, y5)))
  | _ => none
def ic49 : ICode := (.seq (.reg [⟨(some 2), none, (.box 3 (.t 0))⟩, ⟨(some 3), none, (.box 3 (.t 1))⟩, ⟨(some 4), none, (.mov (.c (.flt .f32 0)))⟩] [2, 3]) (.seq (.reg [⟨(some 5),
      none, (.faddr 0 (.t 2))⟩, ⟨(some 6), none, (.load none (.t 5))⟩, ⟨(some 7), none, (.faddr 0 (.t 3))⟩, ⟨(some 8), none, (.load none (.t 7))⟩, ⟨(some 9), none, (.bin .mul false
      (.t 6) (.t 8))⟩, ⟨(some 10), none, (.faddr 1 (.t 2))⟩, ⟨(some 11), none, (.load none (.t 10))⟩, ⟨(some 12), none, (.faddr 1 (.t 3))⟩, ⟨(some 13), none, (.load none (.t 12))⟩,
      ⟨(some 14), none, (.bin .mul false (.t 11) (.t 13))⟩, ⟨(some 15), none, (.bin .add false (.t 9) (.t 14))⟩, ⟨(some 16), none, (.faddr 2 (.t 2))⟩, ⟨(some 17), none, (.load none
      (.t 16))⟩, ⟨(some 18), none, (.faddr 2 (.t 3))⟩, ⟨(some 19), none, (.load none (.t 18))⟩, ⟨(some 20), none, (.bin .mul false (.t 17) (.t 19))⟩, ⟨(some 21), none, (.bin .add
      false (.t 15) (.t 20))⟩, ⟨(some 4), none, (.mov (.t 21))⟩] [4]) .ret))
def cp49 : CP := { n := 22, kp := [[2, 3], [4]] }
theorem fc49_0 : IntKind.wrap .i64 (-1) = (-1) := by decide
theorem fc49_1 : IntKind.wrap .i64 0 = 0 := by decide
theorem fc49_2 : IntKind.wrap .i64 1 = 1 := by decide
theorem fc49_3 : IntKind.wrap .i64 10 = 10 := by decide
theorem fc49_4 : IntKind.wrap .i64 11 = 11 := by decide
theorem fc49_5 : IntKind.wrap .i64 110 = 110 := by decide
theorem fc49_6 : IntKind.wrap .i64 12 = 12 := by decide
theorem fc49_7 : IntKind.wrap .i64 13 = 13 := by decide
theorem fc49_8 : IntKind.wrap .i64 14 = 14 := by decide
theorem fc49_9 : IntKind.wrap .i64 15 = 15 := by decide
theorem fc49_10 : IntKind.wrap .i64 156 = 156 := by decide
theorem fc49_11 : IntKind.wrap .i64 16 = 16 := by decide
theorem fc49_12 : IntKind.wrap .i64 17 = 17 := by decide
theorem fc49_13 : IntKind.wrap .i64 2 = 2 := by decide
theorem fc49_14 : IntKind.wrap .i64 20 = 20 := by decide
theorem fc49_15 : IntKind.wrap .i64 210 = 210 := by decide
theorem fc49_16 : IntKind.wrap .i64 272 = 272 := by decide
theorem fc49_17 : IntKind.wrap .i64 3 = 3 := by decide
theorem fc49_18 : IntKind.wrap .i64 4 = 4 := by decide
theorem fc49_19 : IntKind.wrap .i64 42 = 42 := by decide
theorem fc49_20 : IntKind.wrap .i64 5 = 5 := by decide
theorem fc49_21 : IntKind.wrap .i64 6 = 6 := by decide
theorem fc49_22 : IntKind.wrap .i64 7 = 7 := by decide
theorem fc49_23 : IntKind.wrap .i64 72 = 72 := by decide
theorem fc49_24 : IntKind.wrap .i64 8 = 8 := by decide
theorem fc49_25 : IntKind.wrap .i64 9 = 9 := by decide
theorem s49 : ∀ vs r, g_impl_InnerOf vs = some r → Says Try.prog 49 vs r := by
  intro vs r h
  unfold g_impl_InnerOf at h
  split at h
  · rename_i y0 y1 y2 y3 y4 y5
    cases h
    refine spec_of (tab := tabOf []) (cp := cp49) (ic := ic49) (rvl := [(.t 4)]) hm tabOk_nil Try.func49 rfl rfl rfl (by kernel_rfl) rfl (Nat.le_of_ble_eq_true rfl) ?_
    show eA _ _ _ _
    unfold ic49
    simp only [
        eA_seq, eA_reg, eA_ret, eA_skip, eA_cond, eA_block, eA_exit, eCc_true, eCc_false, Kq_normal, Kq_ret, Kq_exit, Kb_normal, Kb_exit, Kb_ret, Kreg_eq, eI_nil, bindSt_some,
              bindSt_none, bindSt_ite, eR_eq, eGI_tt, eGI_ff, eGI_tf, eGI_ft, eop, vop, ev_t, ev_c, ev_f, Option.map, put_some, put_none, set_eq, setH_eq, get_eq, hp_eq, keep_cons,
              keep_nil, lk_cons, lk_nil, startSt, envOf, reduceIte, Nat.reduceEqDiff, Nat.reduceAdd, Nat.zero_add, Nat.add_zero, Nat.reduceMul, Nat.reduceLT, Nat.reduceLeDiff, bop,
              uop, intop, fltop, convop, true_or, or_true, Bool.false_eq_true, ret_ok, ret_normal, outV, rvV, rvs, ex_some, pureV, pureX, pureX.pure1', pure1, Bool.true_and,
              Bool.false_and, Bool.and_true, Bool.and_false, Option.isNone_none, AV.cells, AV.one, storable, laid, refless, refless1, List.all_cons, List.all_nil, List.length_cons,
              List.length_nil, List.getElem?_cons_zero, List.getElem?_cons_succ, List.set_cons_zero, List.set_cons_succ, List.set_nil, List.map_cons, List.map_nil, vload, loadC,
              storeC, vnil, vfaddr, vextract, callTo, List.mapM_cons, List.mapM_nil, Option.pure_def, Option.bind_eq_bind, Option.bind_some, tabOf_cons, flatT, flatE, flatC,
              and_self, and_true, true_and, implies_true, forall_const, not_true_eq_false, not_false_eq_true, false_implies, List.take_succ_cons, List.drop_succ_cons,
              List.take_zero, List.drop_zero, Bool.not_true, Bool.not_false, beq_self_eq_true, decide_true, decide_false, eq_self, Int.reduceEq, Int.reduceLE, Int.reduceLT,
              Bool.not_not, Bool.true_or, Bool.or_true, Bool.false_or, Bool.or_false, if_true, if_false, List.getElem?_nil, Kl_normal, Kl_exit, Kl_ret, fc49_0, fc49_1, fc49_2,
              fc49_3, fc49_4, fc49_5, fc49_6, fc49_7, fc49_8, fc49_9, fc49_10, fc49_11, fc49_12, fc49_13, fc49_14, fc49_15, fc49_16, fc49_17, fc49_18, fc49_19, fc49_20, fc49_21,
              fc49_22, fc49_23, fc49_24, fc49_25, cast_lit, toNat_lit, Int.reduceAdd, Int.reduceSub, Int.reduceMul, Int.reduceNeg, Int.reducePow, Nat.reducePow, Int.reduceToNat,
              Nat.reduceSub, Nat.mul_one, Int.toNat_zero, prod_eta, List.nil_append, List.cons_append, List.append_nil, Int.le_refl, Nat.le_refl, true_implies, take_all, vconv, vmm,
              vidxA, viaddrA, iaddr_sl, iaddr_lsl, getE, vfield, vlen, fillC, fillE, List.replicate, elemsOf, List.length_map, f2iK_eq, bits_i64, bits_i32, bits_u64, bits_u32,
              bits_u8, e_mov, g_mov, e_box, g_box, e_load, g_load, e_bin, g_bin, e_faddr, g_faddr, dF32_map, dF64_map, dI64_map, dU8_map, dBool_map, dStr_map, decL, dF32, dF64,
              dI64, dU8, dBool, dStr]
    repeat' (first
      | ((first | (refine eGI_of (fun h => ?_) (fun h => ?_)) | (refine eCc_of (fun h => ?_) (fun h => ?_))) <;> (try simp only [Bool.not_eq_true', Bool.not_eq_false'] at h) <;> simp only [h,
        eA_seq, eA_reg, eA_ret, eA_skip, eA_cond, eA_block, eA_exit, eCc_true, eCc_false, Kq_normal, Kq_ret, Kq_exit, Kb_normal, Kb_exit, Kb_ret, Kreg_eq, eI_nil, bindSt_some,
              bindSt_none, bindSt_ite, eR_eq, eGI_tt, eGI_ff, eGI_tf, eGI_ft, eop, vop, ev_t, ev_c, ev_f, Option.map, put_some, put_none, set_eq, setH_eq, get_eq, hp_eq, keep_cons,
              keep_nil, lk_cons, lk_nil, startSt, envOf, reduceIte, Nat.reduceEqDiff, Nat.reduceAdd, Nat.zero_add, Nat.add_zero, Nat.reduceMul, Nat.reduceLT, Nat.reduceLeDiff, bop,
              uop, intop, fltop, convop, true_or, or_true, Bool.false_eq_true, ret_ok, ret_normal, outV, rvV, rvs, ex_some, pureV, pureX, pureX.pure1', pure1, Bool.true_and,
              Bool.false_and, Bool.and_true, Bool.and_false, Option.isNone_none, AV.cells, AV.one, storable, laid, refless, refless1, List.all_cons, List.all_nil, List.length_cons,
              List.length_nil, List.getElem?_cons_zero, List.getElem?_cons_succ, List.set_cons_zero, List.set_cons_succ, List.set_nil, List.map_cons, List.map_nil, vload, loadC,
              storeC, vnil, vfaddr, vextract, callTo, List.mapM_cons, List.mapM_nil, Option.pure_def, Option.bind_eq_bind, Option.bind_some, tabOf_cons, flatT, flatE, flatC,
              and_self, and_true, true_and, implies_true, forall_const, not_true_eq_false, not_false_eq_true, false_implies, List.take_succ_cons, List.drop_succ_cons,
              List.take_zero, List.drop_zero, Bool.not_true, Bool.not_false, beq_self_eq_true, decide_true, decide_false, eq_self, Int.reduceEq, Int.reduceLE, Int.reduceLT,
              Bool.not_not, Bool.true_or, Bool.or_true, Bool.false_or, Bool.or_false, if_true, if_false, List.getElem?_nil, Kl_normal, Kl_exit, Kl_ret, fc49_0, fc49_1, fc49_2,
              fc49_3, fc49_4, fc49_5, fc49_6, fc49_7, fc49_8, fc49_9, fc49_10, fc49_11, fc49_12, fc49_13, fc49_14, fc49_15, fc49_16, fc49_17, fc49_18, fc49_19, fc49_20, fc49_21,
              fc49_22, fc49_23, fc49_24, fc49_25, cast_lit, toNat_lit, Int.reduceAdd, Int.reduceSub, Int.reduceMul, Int.reduceNeg, Int.reducePow, Nat.reducePow, Int.reduceToNat,
              Nat.reduceSub, Nat.mul_one, Int.toNat_zero, prod_eta, List.nil_append, List.cons_append, List.append_nil, Int.le_refl, Nat.le_refl, true_implies, take_all, vconv, vmm,
              vidxA, viaddrA, iaddr_sl, iaddr_lsl, getE, vfield, vlen, fillC, fillE, List.replicate, elemsOf, List.length_map, f2iK_eq, bits_i64, bits_i32, bits_u64, bits_u32,
              bits_u8, e_mov, g_mov, e_box, g_box, e_load, g_load, e_bin, g_bin, e_faddr, g_faddr, dF32_map, dF64_map, dI64_map, dU8_map, dBool_map, dStr_map, decL, dF32, dF64,
              dI64, dU8, dBool, dStr]))
    all_goals (try simp only [*, m_impl_InnerOf, Bool.and_true, Bool.true_and, Bool.and_false, Bool.false_and, Bool.or_true, Bool.true_or, Bool.or_false, Bool.false_or, Bool.not_true, Bool.not_false, Bool.false_eq_true, if_true, if_false, reduceIte, decide_true, decide_false])
    all_goals (try (simp_all; done))
  · cases h
def m_impl_RootNumber (x0 : Nat) : Nat := (narrow (m_math_Sqrt (widen x0)))
def p_impl_RootNumber (x0 : Nat) : Bool := (narrowOk (m_math_Sqrt (widen x0)))
def g_impl_RootNumber : List AV → Option AV
  | [.flt .f32 y0] => if p_impl_RootNumber y0 = true then some (.flt .f32 (m_impl_RootNumber y0)) else none
  | _ => none
def ic46 : ICode := (.seq (.reg [⟨(some 2), none, (.mov (.c (.flt .f32 0)))⟩] [0]) (.seq (.reg [⟨(some 3), none, (.mov (.t 0))⟩, ⟨(some 4), none, (.conv (.flt .f64) (.t 3))⟩, ⟨(some
      5), none, (.call (.fn 53) [(.t 4)] [])⟩, ⟨(some 6), none, (.conv (.flt .f32) (.t 5))⟩, ⟨(some 2), none, (.mov (.t 6))⟩] [2]) .ret))
def cp46 : CP := { n := 7, kp := [[0], [2]] }
theorem fc46_0 : IntKind.wrap .i64 (-1) = (-1) := by decide
theorem fc46_1 : IntKind.wrap .i64 0 = 0 := by decide
theorem fc46_2 : IntKind.wrap .i64 1 = 1 := by decide
theorem fc46_3 : IntKind.wrap .i64 10 = 10 := by decide
theorem fc46_4 : IntKind.wrap .i64 11 = 11 := by decide
theorem fc46_5 : IntKind.wrap .i64 110 = 110 := by decide
theorem fc46_6 : IntKind.wrap .i64 12 = 12 := by decide
theorem fc46_7 : IntKind.wrap .i64 13 = 13 := by decide
theorem fc46_8 : IntKind.wrap .i64 14 = 14 := by decide
theorem fc46_9 : IntKind.wrap .i64 15 = 15 := by decide
theorem fc46_10 : IntKind.wrap .i64 156 = 156 := by decide
theorem fc46_11 : IntKind.wrap .i64 16 = 16 := by decide
theorem fc46_12 : IntKind.wrap .i64 17 = 17 := by decide
theorem fc46_13 : IntKind.wrap .i64 2 = 2 := by decide
theorem fc46_14 : IntKind.wrap .i64 20 = 20 := by decide
theorem fc46_15 : IntKind.wrap .i64 210 = 210 := by decide
theorem fc46_16 : IntKind.wrap .i64 272 = 272 := by decide
theorem fc46_17 : IntKind.wrap .i64 3 = 3 := by decide
theorem fc46_18 : IntKind.wrap .i64 4 = 4 := by decide
theorem fc46_19 : IntKind.wrap .i64 42 = 42 := by decide
theorem fc46_20 : IntKind.wrap .i64 5 = 5 := by decide
theorem fc46_21 : IntKind.wrap .i64 6 = 6 := by decide
theorem fc46_22 : IntKind.wrap .i64 7 = 7 := by decide
theorem fc46_23 : IntKind.wrap .i64 72 = 72 := by decide
theorem fc46_24 : IntKind.wrap .i64 8 = 8 := by decide
theorem fc46_25 : IntKind.wrap .i64 9 = 9 := by decide
theorem s46 : ∀ vs r, g_impl_RootNumber vs = some r → Says Try.prog 46 vs r := by
  intro vs r h
  unfold g_impl_RootNumber at h
  split at h
  · rename_i y0
    split at h
    · rename_i hp
      cases h
      refine spec_of (tab := tabOf [(53, g_math_Sqrt)]) (cp := cp46) (ic := ic46) (rvl := [(.t 2)]) hm (tabOk_cons s53 tabOk_nil) Try.func46 rfl rfl rfl (by kernel_rfl) rfl (Nat.le_of_ble_eq_true rfl) ?_
      show eA _ _ _ _
      unfold ic46
      simp only [p_impl_RootNumber, Bool.and_eq_true, Bool.or_eq_true, decide_eq_true_eq, Bool.not_eq_true', decide_eq_false_iff_not] at hp
      simp only [
          hp, eA_seq, eA_reg, eA_ret, eA_skip, eA_cond, eA_block, eA_exit, eCc_true, eCc_false, Kq_normal, Kq_ret, Kq_exit, Kb_normal, Kb_exit, Kb_ret, Kreg_eq, eI_nil, bindSt_some,
                bindSt_none, bindSt_ite, eR_eq, eGI_tt, eGI_ff, eGI_tf, eGI_ft, eop, vop, ev_t, ev_c, ev_f, Option.map, put_some, put_none, set_eq, setH_eq, get_eq, hp_eq,
                keep_cons, keep_nil, lk_cons, lk_nil, startSt, envOf, reduceIte, Nat.reduceEqDiff, Nat.reduceAdd, Nat.zero_add, Nat.add_zero, Nat.reduceMul, Nat.reduceLT,
                Nat.reduceLeDiff, bop, uop, intop, fltop, convop, true_or, or_true, Bool.false_eq_true, ret_ok, ret_normal, outV, rvV, rvs, ex_some, pureV, pureX, pureX.pure1',
                pure1, Bool.true_and, Bool.false_and, Bool.and_true, Bool.and_false, Option.isNone_none, AV.cells, AV.one, storable, laid, refless, refless1, List.all_cons,
                List.all_nil, List.length_cons, List.length_nil, List.getElem?_cons_zero, List.getElem?_cons_succ, List.set_cons_zero, List.set_cons_succ, List.set_nil,
                List.map_cons, List.map_nil, vload, loadC, storeC, vnil, vfaddr, vextract, callTo, List.mapM_cons, List.mapM_nil, Option.pure_def, Option.bind_eq_bind,
                Option.bind_some, tabOf_cons, flatT, flatE, flatC, and_self, and_true, true_and, implies_true, forall_const, not_true_eq_false, not_false_eq_true, false_implies,
                List.take_succ_cons, List.drop_succ_cons, List.take_zero, List.drop_zero, Bool.not_true, Bool.not_false, beq_self_eq_true, decide_true, decide_false, eq_self,
                Int.reduceEq, Int.reduceLE, Int.reduceLT, Bool.not_not, Bool.true_or, Bool.or_true, Bool.false_or, Bool.or_false, if_true, if_false, List.getElem?_nil, Kl_normal,
                Kl_exit, Kl_ret, fc46_0, fc46_1, fc46_2, fc46_3, fc46_4, fc46_5, fc46_6, fc46_7, fc46_8, fc46_9, fc46_10, fc46_11, fc46_12, fc46_13, fc46_14, fc46_15, fc46_16,
                fc46_17, fc46_18, fc46_19, fc46_20, fc46_21, fc46_22, fc46_23, fc46_24, fc46_25, cast_lit, toNat_lit, Int.reduceAdd, Int.reduceSub, Int.reduceMul, Int.reduceNeg,
                Int.reducePow, Nat.reducePow, Int.reduceToNat, Nat.reduceSub, Nat.mul_one, Int.toNat_zero, prod_eta, List.nil_append, List.cons_append, List.append_nil, Int.le_refl,
                Nat.le_refl, true_implies, take_all, vconv, vmm, vidxA, viaddrA, iaddr_sl, iaddr_lsl, getE, vfield, vlen, fillC, fillE, List.replicate, elemsOf, List.length_map,
                f2iK_eq, bits_i64, bits_i32, bits_u64, bits_u32, bits_u8, e_mov, g_mov, e_conv, g_conv, e_call, g_call, g_math_Sqrt, dF32_map, dF64_map, dI64_map, dU8_map,
                dBool_map, dStr_map, decL, dF32, dF64, dI64, dU8, dBool, dStr]
      repeat' (first
        | ((first | (refine eGI_of (fun h => ?_) (fun h => ?_)) | (refine eCc_of (fun h => ?_) (fun h => ?_))) <;> (try simp only [Bool.not_eq_true', Bool.not_eq_false'] at h) <;> (try simp only [h, reduceCtorEq, Bool.not_eq_true', decide_eq_false_iff_not, Bool.not_true, Bool.not_false, Bool.false_or, Bool.true_or, Bool.true_and, Bool.false_and, Bool.and_eq_true, Bool.or_eq_true, if_true, if_false, reduceIte, Bool.false_eq_true, and_true, true_and, false_or, or_false, decide_eq_true_eq, not_false_eq_true, not_true_eq_false] at hp) <;> (try (have h2 := h; simp only [decide_eq_true_eq, decide_eq_false_iff_not] at h2; (first | (replace h2 := eq_false h2) | (replace h2 := eq_true h2)); simp only [h2, if_true, if_false, false_or, true_or, or_true, or_false, and_true, true_and, not_false_eq_true, not_true_eq_false] at hp)) <;> simp only [h,
          hp, eA_seq, eA_reg, eA_ret, eA_skip, eA_cond, eA_block, eA_exit, eCc_true, eCc_false, Kq_normal, Kq_ret, Kq_exit, Kb_normal, Kb_exit, Kb_ret, Kreg_eq, eI_nil, bindSt_some,
                bindSt_none, bindSt_ite, eR_eq, eGI_tt, eGI_ff, eGI_tf, eGI_ft, eop, vop, ev_t, ev_c, ev_f, Option.map, put_some, put_none, set_eq, setH_eq, get_eq, hp_eq,
                keep_cons, keep_nil, lk_cons, lk_nil, startSt, envOf, reduceIte, Nat.reduceEqDiff, Nat.reduceAdd, Nat.zero_add, Nat.add_zero, Nat.reduceMul, Nat.reduceLT,
                Nat.reduceLeDiff, bop, uop, intop, fltop, convop, true_or, or_true, Bool.false_eq_true, ret_ok, ret_normal, outV, rvV, rvs, ex_some, pureV, pureX, pureX.pure1',
                pure1, Bool.true_and, Bool.false_and, Bool.and_true, Bool.and_false, Option.isNone_none, AV.cells, AV.one, storable, laid, refless, refless1, List.all_cons,
                List.all_nil, List.length_cons, List.length_nil, List.getElem?_cons_zero, List.getElem?_cons_succ, List.set_cons_zero, List.set_cons_succ, List.set_nil,
                List.map_cons, List.map_nil, vload, loadC, storeC, vnil, vfaddr, vextract, callTo, List.mapM_cons, List.mapM_nil, Option.pure_def, Option.bind_eq_bind,
                Option.bind_some, tabOf_cons, flatT, flatE, flatC, and_self, and_true, true_and, implies_true, forall_const, not_true_eq_false, not_false_eq_true, false_implies,
                List.take_succ_cons, List.drop_succ_cons, List.take_zero, List.drop_zero, Bool.not_true, Bool.not_false, beq_self_eq_true, decide_true, decide_false, eq_self,
                Int.reduceEq, Int.reduceLE, Int.reduceLT, Bool.not_not, Bool.true_or, Bool.or_true, Bool.false_or, Bool.or_false, if_true, if_false, List.getElem?_nil, Kl_normal,
                Kl_exit, Kl_ret, fc46_0, fc46_1, fc46_2, fc46_3, fc46_4, fc46_5, fc46_6, fc46_7, fc46_8, fc46_9, fc46_10, fc46_11, fc46_12, fc46_13, fc46_14, fc46_15, fc46_16,
                fc46_17, fc46_18, fc46_19, fc46_20, fc46_21, fc46_22, fc46_23, fc46_24, fc46_25, cast_lit, toNat_lit, Int.reduceAdd, Int.reduceSub, Int.reduceMul, Int.reduceNeg,
                Int.reducePow, Nat.reducePow, Int.reduceToNat, Nat.reduceSub, Nat.mul_one, Int.toNat_zero, prod_eta, List.nil_append, List.cons_append, List.append_nil, Int.le_refl,
                Nat.le_refl, true_implies, take_all, vconv, vmm, vidxA, viaddrA, iaddr_sl, iaddr_lsl, getE, vfield, vlen, fillC, fillE, List.replicate, elemsOf, List.length_map,
                f2iK_eq, bits_i64, bits_i32, bits_u64, bits_u32, bits_u8, e_mov, g_mov, e_conv, g_conv, e_call, g_call, g_math_Sqrt, dF32_map, dF64_map, dI64_map, dU8_map,
                dBool_map, dStr_map, decL, dF32, dF64, dI64, dU8, dBool, dStr]))
      all_goals (try simp only [*, m_impl_RootNumber, Bool.and_true, Bool.true_and, Bool.and_false, Bool.false_and, Bool.or_true, Bool.true_or, Bool.or_false, Bool.false_or, Bool.not_true, Bool.not_false, Bool.false_eq_true, if_true, if_false, reduceIte, decide_true, decide_false])
      all_goals (try (simp_all; done))
    · cases h
  · cases h
def m_impl_LongOf (x0 : (Nat × Nat × Nat)) : Nat := (m_impl_RootNumber (m_impl_InnerOf x0 x0))
def p_impl_LongOf (x0 : (Nat × Nat × Nat)) : Bool := (p_impl_RootNumber (m_impl_InnerOf x0 x0))
def g_impl_LongOf : List AV → Option AV
  | [.agg [.flt .f32 y0, .flt .f32 y1, .flt .f32 y2]] => if p_impl_LongOf (y0, y1, y2) = true then some (.flt .f32 (m_impl_LongOf (y0, y1,
      y2))) else none
  | _ => none
def ic42 : ICode := (.seq (.reg [⟨(some 1), none, (.box 3 (.t 0))⟩, ⟨(some 2), none, (.mov (.c (.flt .f32 0)))⟩] [1]) (.seq (.reg [⟨(some 3), none, (.load (some 3) (.t 1))⟩, ⟨(some
      4), none, (.load (some 3) (.t 1))⟩, ⟨(some 5), none, (.call (.fn 49) [(.t 3), (.t 4)] [])⟩, ⟨(some 6), none, (.call (.fn 46) [(.t 5)] [])⟩, ⟨(some 2), none, (.mov (.t 6))⟩]
      [2]) .ret))
def cp42 : CP := { n := 7, kp := [[1], [2]] }
theorem fc42_0 : IntKind.wrap .i64 (-1) = (-1) := by decide
theorem fc42_1 : IntKind.wrap .i64 0 = 0 := by decide
theorem fc42_2 : IntKind.wrap .i64 1 = 1 := by decide
theorem fc42_3 : IntKind.wrap .i64 10 = 10 := by decide
theorem fc42_4 : IntKind.wrap .i64 11 = 11 := by decide
theorem fc42_5 : IntKind.wrap .i64 110 = 110 := by decide
theorem fc42_6 : IntKind.wrap .i64 12 = 12 := by decide
theorem fc42_7 : IntKind.wrap .i64 13 = 13 := by decide
theorem fc42_8 : IntKind.wrap .i64 14 = 14 := by decide
theorem fc42_9 : IntKind.wrap .i64 15 = 15 := by decide
theorem fc42_10 : IntKind.wrap .i64 156 = 156 := by decide
theorem fc42_11 : IntKind.wrap .i64 16 = 16 := by decide
theorem fc42_12 : IntKind.wrap .i64 17 = 17 := by decide
theorem fc42_13 : IntKind.wrap .i64 2 = 2 := by decide
theorem fc42_14 : IntKind.wrap .i64 20 = 20 := by decide
theorem fc42_15 : IntKind.wrap .i64 210 = 210 := by decide
theorem fc42_16 : IntKind.wrap .i64 272 = 272 := by decide
theorem fc42_17 : IntKind.wrap .i64 3 = 3 := by decide
theorem fc42_18 : IntKind.wrap .i64 4 = 4 := by decide
theorem fc42_19 : IntKind.wrap .i64 42 = 42 := by decide
theorem fc42_20 : IntKind.wrap .i64 5 = 5 := by decide
theorem fc42_21 : IntKind.wrap .i64 6 = 6 := by decide
theorem fc42_22 : IntKind.wrap .i64 7 = 7 := by decide
theorem fc42_23 : IntKind.wrap .i64 72 = 72 := by decide
theorem fc42_24 : IntKind.wrap .i64 8 = 8 := by decide
theorem fc42_25 : IntKind.wrap .i64 9 = 9 := by decide
theorem s42 : ∀ vs r, g_impl_LongOf vs = some r → Says Try.prog 42 vs r := by
  intro vs r h
  unfold g_impl_LongOf at h
  split at h
  · rename_i y0 y1 y2
    split at h
    · rename_i hp
      cases h
      refine spec_of (tab := tabOf [(46, g_impl_RootNumber), (49, g_impl_InnerOf)]) (cp := cp42) (ic := ic42) (rvl := [(.t 2)]) hm (tabOk_cons s46 (tabOk_cons s49 tabOk_nil)) Try.func42 rfl rfl rfl (by kernel_rfl) rfl (Nat.le_of_ble_eq_true rfl) ?_
      show eA _ _ _ _
      unfold ic42
      simp only [p_impl_LongOf, Bool.and_eq_true, Bool.or_eq_true, decide_eq_true_eq, Bool.not_eq_true', decide_eq_false_iff_not] at hp
      simp only [
          hp, eA_seq, eA_reg, eA_ret, eA_skip, eA_cond, eA_block, eA_exit, eCc_true, eCc_false, Kq_normal, Kq_ret, Kq_exit, Kb_normal, Kb_exit, Kb_ret, Kreg_eq, eI_nil, bindSt_some,
                bindSt_none, bindSt_ite, eR_eq, eGI_tt, eGI_ff, eGI_tf, eGI_ft, eop, vop, ev_t, ev_c, ev_f, Option.map, put_some, put_none, set_eq, setH_eq, get_eq, hp_eq,
                keep_cons, keep_nil, lk_cons, lk_nil, startSt, envOf, reduceIte, Nat.reduceEqDiff, Nat.reduceAdd, Nat.zero_add, Nat.add_zero, Nat.reduceMul, Nat.reduceLT,
                Nat.reduceLeDiff, bop, uop, intop, fltop, convop, true_or, or_true, Bool.false_eq_true, ret_ok, ret_normal, outV, rvV, rvs, ex_some, pureV, pureX, pureX.pure1',
                pure1, Bool.true_and, Bool.false_and, Bool.and_true, Bool.and_false, Option.isNone_none, AV.cells, AV.one, storable, laid, refless, refless1, List.all_cons,
                List.all_nil, List.length_cons, List.length_nil, List.getElem?_cons_zero, List.getElem?_cons_succ, List.set_cons_zero, List.set_cons_succ, List.set_nil,
                List.map_cons, List.map_nil, vload, loadC, storeC, vnil, vfaddr, vextract, callTo, List.mapM_cons, List.mapM_nil, Option.pure_def, Option.bind_eq_bind,
                Option.bind_some, tabOf_cons, flatT, flatE, flatC, and_self, and_true, true_and, implies_true, forall_const, not_true_eq_false, not_false_eq_true, false_implies,
                List.take_succ_cons, List.drop_succ_cons, List.take_zero, List.drop_zero, Bool.not_true, Bool.not_false, beq_self_eq_true, decide_true, decide_false, eq_self,
                Int.reduceEq, Int.reduceLE, Int.reduceLT, Bool.not_not, Bool.true_or, Bool.or_true, Bool.false_or, Bool.or_false, if_true, if_false, List.getElem?_nil, Kl_normal,
                Kl_exit, Kl_ret, fc42_0, fc42_1, fc42_2, fc42_3, fc42_4, fc42_5, fc42_6, fc42_7, fc42_8, fc42_9, fc42_10, fc42_11, fc42_12, fc42_13, fc42_14, fc42_15, fc42_16,
                fc42_17, fc42_18, fc42_19, fc42_20, fc42_21, fc42_22, fc42_23, fc42_24, fc42_25, cast_lit, toNat_lit, Int.reduceAdd, Int.reduceSub, Int.reduceMul, Int.reduceNeg,
                Int.reducePow, Nat.reducePow, Int.reduceToNat, Nat.reduceSub, Nat.mul_one, Int.toNat_zero, prod_eta, List.nil_append, List.cons_append, List.append_nil, Int.le_refl,
                Nat.le_refl, true_implies, take_all, vconv, vmm, vidxA, viaddrA, iaddr_sl, iaddr_lsl, getE, vfield, vlen, fillC, fillE, List.replicate, elemsOf, List.length_map,
                f2iK_eq, bits_i64, bits_i32, bits_u64, bits_u32, bits_u8, e_mov, g_mov, e_box, g_box, e_load, g_load, e_call, g_call, g_impl_RootNumber, g_impl_InnerOf, dF32_map,
                dF64_map, dI64_map, dU8_map, dBool_map, dStr_map, decL, dF32, dF64, dI64, dU8, dBool, dStr]
      repeat' (first
        | ((first | (refine eGI_of (fun h => ?_) (fun h => ?_)) | (refine eCc_of (fun h => ?_) (fun h => ?_))) <;> (try simp only [Bool.not_eq_true', Bool.not_eq_false'] at h) <;> (try simp only [h, reduceCtorEq, Bool.not_eq_true', decide_eq_false_iff_not, Bool.not_true, Bool.not_false, Bool.false_or, Bool.true_or, Bool.true_and, Bool.false_and, Bool.and_eq_true, Bool.or_eq_true, if_true, if_false, reduceIte, Bool.false_eq_true, and_true, true_and, false_or, or_false, decide_eq_true_eq, not_false_eq_true, not_true_eq_false] at hp) <;> (try (have h2 := h; simp only [decide_eq_true_eq, decide_eq_false_iff_not] at h2; (first | (replace h2 := eq_false h2) | (replace h2 := eq_true h2)); simp only [h2, if_true, if_false, false_or, true_or, or_true, or_false, and_true, true_and, not_false_eq_true, not_true_eq_false] at hp)) <;> simp only [h,
          hp, eA_seq, eA_reg, eA_ret, eA_skip, eA_cond, eA_block, eA_exit, eCc_true, eCc_false, Kq_normal, Kq_ret, Kq_exit, Kb_normal, Kb_exit, Kb_ret, Kreg_eq, eI_nil, bindSt_some,
                bindSt_none, bindSt_ite, eR_eq, eGI_tt, eGI_ff, eGI_tf, eGI_ft, eop, vop, ev_t, ev_c, ev_f, Option.map, put_some, put_none, set_eq, setH_eq, get_eq, hp_eq,
                keep_cons, keep_nil, lk_cons, lk_nil, startSt, envOf, reduceIte, Nat.reduceEqDiff, Nat.reduceAdd, Nat.zero_add, Nat.add_zero, Nat.reduceMul, Nat.reduceLT,
                Nat.reduceLeDiff, bop, uop, intop, fltop, convop, true_or, or_true, Bool.false_eq_true, ret_ok, ret_normal, outV, rvV, rvs, ex_some, pureV, pureX, pureX.pure1',
                pure1, Bool.true_and, Bool.false_and, Bool.and_true, Bool.and_false, Option.isNone_none, AV.cells, AV.one, storable, laid, refless, refless1, List.all_cons,
                List.all_nil, List.length_cons, List.length_nil, List.getElem?_cons_zero, List.getElem?_cons_succ, List.set_cons_zero, List.set_cons_succ, List.set_nil,
                List.map_cons, List.map_nil, vload, loadC, storeC, vnil, vfaddr, vextract, callTo, List.mapM_cons, List.mapM_nil, Option.pure_def, Option.bind_eq_bind,
                Option.bind_some, tabOf_cons, flatT, flatE, flatC, and_self, and_true, true_and, implies_true, forall_const, not_true_eq_false, not_false_eq_true, false_implies,
                List.take_succ_cons, List.drop_succ_cons, List.take_zero, List.drop_zero, Bool.not_true, Bool.not_false, beq_self_eq_true, decide_true, decide_false, eq_self,
                Int.reduceEq, Int.reduceLE, Int.reduceLT, Bool.not_not, Bool.true_or, Bool.or_true, Bool.false_or, Bool.or_false, if_true, if_false, List.getElem?_nil, Kl_normal,
                Kl_exit, Kl_ret, fc42_0, fc42_1, fc42_2, fc42_3, fc42_4, fc42_5, fc42_6, fc42_7, fc42_8, fc42_9, fc42_10, fc42_11, fc42_12, fc42_13, fc42_14, fc42_15, fc42_16,
                fc42_17, fc42_18, fc42_19, fc42_20, fc42_21, fc42_22, fc42_23, fc42_24, fc42_25, cast_lit, toNat_lit, Int.reduceAdd, Int.reduceSub, Int.reduceMul, Int.reduceNeg,
                Int.reducePow, Nat.reducePow, Int.reduceToNat, Nat.reduceSub, Nat.mul_one, Int.toNat_zero, prod_eta, List.nil_append, List.cons_append, List.append_nil, Int.le_refl,
                Nat.le_refl, true_implies, take_all, vconv, vmm, vidxA, viaddrA, iaddr_sl, iaddr_lsl, getE, vfield, vlen, fillC, fillE, List.replicate, elemsOf, List.length_map,
                f2iK_eq, bits_i64, bits_i32, bits_u64, bits_u32, bits_u8, e_mov, g_mov, e_box, g_box, e_load, g_load, e_call, g_call, g_impl_RootNumber, g_impl_InnerOf, dF32_map,
                dF64_map, dI64_map, dU8_map, dBool_map, dStr_map, decL, dF32, dF64, dI64, dU8, dBool, dStr]))
      all_goals (try simp only [*, m_impl_LongOf, Bool.and_true, Bool.true_and, Bool.and_false, Bool.false_and, Bool.or_true, Bool.true_or, Bool.or_false, Bool.false_or, Bool.not_true, Bool.not_false, Bool.false_eq_true, if_true, if_false, reduceIte, decide_true, decide_false])
      all_goals (try (simp_all; done))
    · cases h
  · cases h
def m_impl_CrossOf (x0 : (Nat × Nat × Nat)) (x1 : (Nat × Nat × Nat)) : (Nat × Nat × Nat) := ((fsub .f32 (fmul .f32 x0.2.1 x1.2.2) (fmul .f32 x0.2.2 x1.2.1)), (fsub .f32 (fmul .f32
      x0.2.2 x1.1) (fmul .f32 x0.1 x1.2.2)), (fsub .f32 (fmul .f32 x0.1 x1.2.1) (fmul .f32 x0.2.1 x1.1)))
def g_impl_CrossOf : List AV → Option AV
  | [.agg [.flt .f32 y0, .flt .f32 y1, .flt .f32 y2], .agg [.flt .f32 y3, .flt .f32 y4, .flt .f32 y5]] => some (AV.agg [(.flt .f32
      (m_impl_CrossOf (y0, y1, y2) (y3, y4, y5)).1), (.flt .f32 (m_impl_CrossOf (y0, y1, y2) (y3, y4, y5)).2.1), (.flt .f32 (m_impl_CrossOf (y0, y1, y2) (y3, y4, y5)).2.2)])
  | _ => none
def ic91 : ICode := (.seq (.reg [⟨(some 2), none, (.box 3 (.t 0))⟩, ⟨(some 3), none, (.box 3 (.t 1))⟩, ⟨(some 4), none, (.alloc (.agg [(.flt .f32 0), (.flt .f32 0), (.flt .f32
      0)]))⟩] [2, 3, 4]) (.seq (.reg [⟨(some 5), none, (.faddr 1 (.t 2))⟩, ⟨(some 6), none, (.load none (.t 5))⟩, ⟨(some 7), none, (.faddr 2 (.t 3))⟩, ⟨(some 8), none, (.load none
      (.t 7))⟩, ⟨(some 9), none, (.bin .mul false (.t 6) (.t 8))⟩, ⟨(some 10), none, (.faddr 2 (.t 2))⟩, ⟨(some 11), none, (.load none (.t 10))⟩, ⟨(some 12), none, (.faddr 1 (.t
      3))⟩, ⟨(some 13), none, (.load none (.t 12))⟩, ⟨(some 14), none, (.bin .mul false (.t 11) (.t 13))⟩, ⟨(some 15), none, (.bin .sub false (.t 9) (.t 14))⟩, ⟨(some 16), none,
      (.faddr 2 (.t 2))⟩, ⟨(some 17), none, (.load none (.t 16))⟩, ⟨(some 18), none, (.faddr 0 (.t 3))⟩, ⟨(some 19), none, (.load none (.t 18))⟩, ⟨(some 20), none, (.bin .mul false
      (.t 17) (.t 19))⟩, ⟨(some 21), none, (.faddr 0 (.t 2))⟩, ⟨(some 22), none, (.load none (.t 21))⟩, ⟨(some 23), none, (.faddr 2 (.t 3))⟩, ⟨(some 24), none, (.load none (.t
      23))⟩, ⟨(some 25), none, (.bin .mul false (.t 22) (.t 24))⟩, ⟨(some 26), none, (.bin .sub false (.t 20) (.t 25))⟩, ⟨(some 27), none, (.faddr 0 (.t 2))⟩, ⟨(some 28), none,
      (.load none (.t 27))⟩, ⟨(some 29), none, (.faddr 1 (.t 3))⟩, ⟨(some 30), none, (.load none (.t 29))⟩, ⟨(some 31), none, (.bin .mul false (.t 28) (.t 30))⟩, ⟨(some 32), none,
      (.faddr 1 (.t 2))⟩, ⟨(some 33), none, (.load none (.t 32))⟩, ⟨(some 34), none, (.faddr 0 (.t 3))⟩, ⟨(some 35), none, (.load none (.t 34))⟩, ⟨(some 36), none, (.bin .mul false
      (.t 33) (.t 35))⟩, ⟨(some 37), none, (.bin .sub false (.t 31) (.t 36))⟩, ⟨(some 38), none, (.build [(.flt .f32 0), (.flt .f32 0), (.flt .f32 0)] [(0, 1, (.t 15)), (1, 1, (.t
      26)), (2, 1, (.t 37))])⟩, ⟨none, none, (.store 3 (.t 4) (.t 38))⟩] [4]) .ret))
def cp91 : CP := { n := 39, kp := [[2, 3, 4], [4]] }
theorem fc91_0 : IntKind.wrap .i64 (-1) = (-1) := by decide
theorem fc91_1 : IntKind.wrap .i64 0 = 0 := by decide
theorem fc91_2 : IntKind.wrap .i64 1 = 1 := by decide
theorem fc91_3 : IntKind.wrap .i64 10 = 10 := by decide
theorem fc91_4 : IntKind.wrap .i64 11 = 11 := by decide
theorem fc91_5 : IntKind.wrap .i64 110 = 110 := by decide
theorem fc91_6 : IntKind.wrap .i64 12 = 12 := by decide
theorem fc91_7 : IntKind.wrap .i64 13 = 13 := by decide
theorem fc91_8 : IntKind.wrap .i64 14 = 14 := by decide
theorem fc91_9 : IntKind.wrap .i64 15 = 15 := by decide
theorem fc91_10 : IntKind.wrap .i64 156 = 156 := by decide
theorem fc91_11 : IntKind.wrap .i64 16 = 16 := by decide
theorem fc91_12 : IntKind.wrap .i64 17 = 17 := by decide
theorem fc91_13 : IntKind.wrap .i64 2 = 2 := by decide
theorem fc91_14 : IntKind.wrap .i64 20 = 20 := by decide
theorem fc91_15 : IntKind.wrap .i64 210 = 210 := by decide
theorem fc91_16 : IntKind.wrap .i64 272 = 272 := by decide
theorem fc91_17 : IntKind.wrap .i64 3 = 3 := by decide
theorem fc91_18 : IntKind.wrap .i64 4 = 4 := by decide
theorem fc91_19 : IntKind.wrap .i64 42 = 42 := by decide
theorem fc91_20 : IntKind.wrap .i64 5 = 5 := by decide
theorem fc91_21 : IntKind.wrap .i64 6 = 6 := by decide
theorem fc91_22 : IntKind.wrap .i64 7 = 7 := by decide
theorem fc91_23 : IntKind.wrap .i64 72 = 72 := by decide
theorem fc91_24 : IntKind.wrap .i64 8 = 8 := by decide
theorem fc91_25 : IntKind.wrap .i64 9 = 9 := by decide
theorem s91 : ∀ vs r, g_impl_CrossOf vs = some r → Says Try.prog 91 vs r := by
  intro vs r h
  unfold g_impl_CrossOf at h
  split at h
  · rename_i y0 y1 y2 y3 y4 y5
    cases h
    refine spec_of (tab := tabOf []) (cp := cp91) (ic := ic91) (rvl := [(.c 4 (some 3))]) hm tabOk_nil Try.func91 rfl rfl rfl (by kernel_rfl) rfl (Nat.le_of_ble_eq_true rfl) ?_
    show eA _ _ _ _
    unfold ic91
    simp only [
        eA_seq, eA_reg, eA_ret, eA_skip, eA_cond, eA_block, eA_exit, eCc_true, eCc_false, Kq_normal, Kq_ret, Kq_exit, Kb_normal, Kb_exit, Kb_ret, Kreg_eq, eI_nil, bindSt_some,
              bindSt_none, bindSt_ite, eR_eq, eGI_tt, eGI_ff, eGI_tf, eGI_ft, eop, vop, ev_t, ev_c, ev_f, Option.map, put_some, put_none, set_eq, setH_eq, get_eq, hp_eq, keep_cons,
              keep_nil, lk_cons, lk_nil, startSt, envOf, reduceIte, Nat.reduceEqDiff, Nat.reduceAdd, Nat.zero_add, Nat.add_zero, Nat.reduceMul, Nat.reduceLT, Nat.reduceLeDiff, bop,
              uop, intop, fltop, convop, true_or, or_true, Bool.false_eq_true, ret_ok, ret_normal, outV, rvV, rvs, ex_some, pureV, pureX, pureX.pure1', pure1, Bool.true_and,
              Bool.false_and, Bool.and_true, Bool.and_false, Option.isNone_none, AV.cells, AV.one, storable, laid, refless, refless1, List.all_cons, List.all_nil, List.length_cons,
              List.length_nil, List.getElem?_cons_zero, List.getElem?_cons_succ, List.set_cons_zero, List.set_cons_succ, List.set_nil, List.map_cons, List.map_nil, vload, loadC,
              storeC, vnil, vfaddr, vextract, callTo, List.mapM_cons, List.mapM_nil, Option.pure_def, Option.bind_eq_bind, Option.bind_some, tabOf_cons, flatT, flatE, flatC,
              and_self, and_true, true_and, implies_true, forall_const, not_true_eq_false, not_false_eq_true, false_implies, List.take_succ_cons, List.drop_succ_cons,
              List.take_zero, List.drop_zero, Bool.not_true, Bool.not_false, beq_self_eq_true, decide_true, decide_false, eq_self, Int.reduceEq, Int.reduceLE, Int.reduceLT,
              Bool.not_not, Bool.true_or, Bool.or_true, Bool.false_or, Bool.or_false, if_true, if_false, List.getElem?_nil, Kl_normal, Kl_exit, Kl_ret, fc91_0, fc91_1, fc91_2,
              fc91_3, fc91_4, fc91_5, fc91_6, fc91_7, fc91_8, fc91_9, fc91_10, fc91_11, fc91_12, fc91_13, fc91_14, fc91_15, fc91_16, fc91_17, fc91_18, fc91_19, fc91_20, fc91_21,
              fc91_22, fc91_23, fc91_24, fc91_25, cast_lit, toNat_lit, Int.reduceAdd, Int.reduceSub, Int.reduceMul, Int.reduceNeg, Int.reducePow, Nat.reducePow, Int.reduceToNat,
              Nat.reduceSub, Nat.mul_one, Int.toNat_zero, prod_eta, List.nil_append, List.cons_append, List.append_nil, Int.le_refl, Nat.le_refl, true_implies, take_all, vconv, vmm,
              vidxA, viaddrA, iaddr_sl, iaddr_lsl, getE, vfield, vlen, fillC, fillE, List.replicate, elemsOf, List.length_map, f2iK_eq, bits_i64, bits_i32, bits_u64, bits_u32,
              bits_u8, e_alloc, g_alloc, e_box, g_box, e_build, g_build, e_load, g_load, e_store, g_store, e_bin, g_bin, e_faddr, g_faddr, dF32_map, dF64_map, dI64_map, dU8_map,
              dBool_map, dStr_map, decL, dF32, dF64, dI64, dU8, dBool, dStr]
    repeat' (first
      | ((first | (refine eGI_of (fun h => ?_) (fun h => ?_)) | (refine eCc_of (fun h => ?_) (fun h => ?_))) <;> (try simp only [Bool.not_eq_true', Bool.not_eq_false'] at h) <;> simp only [h,
        eA_seq, eA_reg, eA_ret, eA_skip, eA_cond, eA_block, eA_exit, eCc_true, eCc_false, Kq_normal, Kq_ret, Kq_exit, Kb_normal, Kb_exit, Kb_ret, Kreg_eq, eI_nil, bindSt_some,
              bindSt_none, bindSt_ite, eR_eq, eGI_tt, eGI_ff, eGI_tf, eGI_ft, eop, vop, ev_t, ev_c, ev_f, Option.map, put_some, put_none, set_eq, setH_eq, get_eq, hp_eq, keep_cons,
              keep_nil, lk_cons, lk_nil, startSt, envOf, reduceIte, Nat.reduceEqDiff, Nat.reduceAdd, Nat.zero_add, Nat.add_zero, Nat.reduceMul, Nat.reduceLT, Nat.reduceLeDiff, bop,
              uop, intop, fltop, convop, true_or, or_true, Bool.false_eq_true, ret_ok, ret_normal, outV, rvV, rvs, ex_some, pureV, pureX, pureX.pure1', pure1, Bool.true_and,
              Bool.false_and, Bool.and_true, Bool.and_false, Option.isNone_none, AV.cells, AV.one, storable, laid, refless, refless1, List.all_cons, List.all_nil, List.length_cons,
              List.length_nil, List.getElem?_cons_zero, List.getElem?_cons_succ, List.set_cons_zero, List.set_cons_succ, List.set_nil, List.map_cons, List.map_nil, vload, loadC,
              storeC, vnil, vfaddr, vextract, callTo, List.mapM_cons, List.mapM_nil, Option.pure_def, Option.bind_eq_bind, Option.bind_some, tabOf_cons, flatT, flatE, flatC,
              and_self, and_true, true_and, implies_true, forall_const, not_true_eq_false, not_false_eq_true, false_implies, List.take_succ_cons, List.drop_succ_cons,
              List.take_zero, List.drop_zero, Bool.not_true, Bool.not_false, beq_self_eq_true, decide_true, decide_false, eq_self, Int.reduceEq, Int.reduceLE, Int.reduceLT,
              Bool.not_not, Bool.true_or, Bool.or_true, Bool.false_or, Bool.or_false, if_true, if_false, List.getElem?_nil, Kl_normal, Kl_exit, Kl_ret, fc91_0, fc91_1, fc91_2,
              fc91_3, fc91_4, fc91_5, fc91_6, fc91_7, fc91_8, fc91_9, fc91_10, fc91_11, fc91_12, fc91_13, fc91_14, fc91_15, fc91_16, fc91_17, fc91_18, fc91_19, fc91_20, fc91_21,
              fc91_22, fc91_23, fc91_24, fc91_25, cast_lit, toNat_lit, Int.reduceAdd, Int.reduceSub, Int.reduceMul, Int.reduceNeg, Int.reducePow, Nat.reducePow, Int.reduceToNat,
              Nat.reduceSub, Nat.mul_one, Int.toNat_zero, prod_eta, List.nil_append, List.cons_append, List.append_nil, Int.le_refl, Nat.le_refl, true_implies, take_all, vconv, vmm,
              vidxA, viaddrA, iaddr_sl, iaddr_lsl, getE, vfield, vlen, fillC, fillE, List.replicate, elemsOf, List.length_map, f2iK_eq, bits_i64, bits_i32, bits_u64, bits_u32,
              bits_u8, e_alloc, g_alloc, e_box, g_box, e_build, g_build, e_load, g_load, e_store, g_store, e_bin, g_bin, e_faddr, g_faddr, dF32_map, dF64_map, dI64_map, dU8_map,
              dBool_map, dStr_map, decL, dF32, dF64, dI64, dU8, dBool, dStr]))
    all_goals (try simp only [*, m_impl_CrossOf, Bool.and_true, Bool.true_and, Bool.and_false, Bool.false_and, Bool.or_true, Bool.true_or, Bool.or_false, Bool.false_or, Bool.not_true, Bool.not_false, Bool.false_eq_true, if_true, if_false, reduceIte, decide_true, decide_false])
    all_goals (try (simp_all; done))
  · cases h
def m_impl_turnOf (x0 : Nat) (x1 : (Nat × Nat × Nat)) : (Nat × Nat × Nat × Nat) := (x0, x1.1, x1.2.1, x1.2.2)
def g_impl_turnOf : List AV → Option AV
  | [.flt .f32 y0, .agg [.flt .f32 y1, .flt .f32 y2, .flt .f32 y3]] => some (AV.agg [(.flt .f32 (m_impl_turnOf y0 (y1, y2, y3)).1), (.flt
      .f32 (m_impl_turnOf y0 (y1, y2, y3)).2.1), (.flt .f32 (m_impl_turnOf y0 (y1, y2, y3)).2.2.1), (.flt .f32 (m_impl_turnOf y0 (y1, y2, y3)).2.2.2)])
  | _ => none
def ic65 : ICode := (.seq (.reg [⟨(some 3), none, (.box 3 (.t 1))⟩, ⟨(some 4), none, (.alloc (.agg [(.flt .f32 0), (.flt .f32 0), (.flt .f32 0), (.flt .f32 0)]))⟩] [0, 3, 4]) (.seq
      (.reg [⟨(some 5), none, (.mov (.t 0))⟩, ⟨(some 6), none, (.faddr 0 (.t 3))⟩, ⟨(some 7), none, (.load none (.t 6))⟩, ⟨(some 8), none, (.faddr 1 (.t 3))⟩, ⟨(some 9), none,
      (.load none (.t 8))⟩, ⟨(some 10), none, (.faddr 2 (.t 3))⟩, ⟨(some 11), none, (.load none (.t 10))⟩, ⟨(some 12), none, (.build [(.flt .f32 0), (.flt .f32 0), (.flt .f32 0),
      (.flt .f32 0)] [(0, 1, (.t 5)), (1, 1, (.t 7)), (2, 1, (.t 9)), (3, 1, (.t 11))])⟩, ⟨none, none, (.store 4 (.t 4) (.t 12))⟩] [4]) .ret))
def cp65 : CP := { n := 13, kp := [[0, 3, 4], [4]] }
theorem fc65_0 : IntKind.wrap .i64 (-1) = (-1) := by decide
theorem fc65_1 : IntKind.wrap .i64 0 = 0 := by decide
theorem fc65_2 : IntKind.wrap .i64 1 = 1 := by decide
theorem fc65_3 : IntKind.wrap .i64 10 = 10 := by decide
theorem fc65_4 : IntKind.wrap .i64 11 = 11 := by decide
theorem fc65_5 : IntKind.wrap .i64 110 = 110 := by decide
theorem fc65_6 : IntKind.wrap .i64 12 = 12 := by decide
theorem fc65_7 : IntKind.wrap .i64 13 = 13 := by decide
theorem fc65_8 : IntKind.wrap .i64 14 = 14 := by decide
theorem fc65_9 : IntKind.wrap .i64 15 = 15 := by decide
theorem fc65_10 : IntKind.wrap .i64 156 = 156 := by decide
theorem fc65_11 : IntKind.wrap .i64 16 = 16 := by decide
theorem fc65_12 : IntKind.wrap .i64 17 = 17 := by decide
theorem fc65_13 : IntKind.wrap .i64 2 = 2 := by decide
theorem fc65_14 : IntKind.wrap .i64 20 = 20 := by decide
theorem fc65_15 : IntKind.wrap .i64 210 = 210 := by decide
theorem fc65_16 : IntKind.wrap .i64 272 = 272 := by decide
theorem fc65_17 : IntKind.wrap .i64 3 = 3 := by decide
theorem fc65_18 : IntKind.wrap .i64 4 = 4 := by decide
theorem fc65_19 : IntKind.wrap .i64 42 = 42 := by decide
theorem fc65_20 : IntKind.wrap .i64 5 = 5 := by decide
theorem fc65_21 : IntKind.wrap .i64 6 = 6 := by decide
theorem fc65_22 : IntKind.wrap .i64 7 = 7 := by decide
theorem fc65_23 : IntKind.wrap .i64 72 = 72 := by decide
theorem fc65_24 : IntKind.wrap .i64 8 = 8 := by decide
theorem fc65_25 : IntKind.wrap .i64 9 = 9 := by decide
theorem s65 : ∀ vs r, g_impl_turnOf vs = some r → Says Try.prog 65 vs r := by
  intro vs r h
  unfold g_impl_turnOf at h
  split at h
  · rename_i y0 y1 y2 y3
    cases h
    refine spec_of (tab := tabOf []) (cp := cp65) (ic := ic65) (rvl := [(.c 4 (some 4))]) hm tabOk_nil Try.func65 rfl rfl rfl (by kernel_rfl) rfl (Nat.le_of_ble_eq_true rfl) ?_
    show eA _ _ _ _
    unfold ic65
    simp only [
        eA_seq, eA_reg, eA_ret, eA_skip, eA_cond, eA_block, eA_exit, eCc_true, eCc_false, Kq_normal, Kq_ret, Kq_exit, Kb_normal, Kb_exit, Kb_ret, Kreg_eq, eI_nil, bindSt_some,
              bindSt_none, bindSt_ite, eR_eq, eGI_tt, eGI_ff, eGI_tf, eGI_ft, eop, vop, ev_t, ev_c, ev_f, Option.map, put_some, put_none, set_eq, setH_eq, get_eq, hp_eq, keep_cons,
              keep_nil, lk_cons, lk_nil, startSt, envOf, reduceIte, Nat.reduceEqDiff, Nat.reduceAdd, Nat.zero_add, Nat.add_zero, Nat.reduceMul, Nat.reduceLT, Nat.reduceLeDiff, bop,
              uop, intop, fltop, convop, true_or, or_true, Bool.false_eq_true, ret_ok, ret_normal, outV, rvV, rvs, ex_some, pureV, pureX, pureX.pure1', pure1, Bool.true_and,
              Bool.false_and, Bool.and_true, Bool.and_false, Option.isNone_none, AV.cells, AV.one, storable, laid, refless, refless1, List.all_cons, List.all_nil, List.length_cons,
              List.length_nil, List.getElem?_cons_zero, List.getElem?_cons_succ, List.set_cons_zero, List.set_cons_succ, List.set_nil, List.map_cons, List.map_nil, vload, loadC,
              storeC, vnil, vfaddr, vextract, callTo, List.mapM_cons, List.mapM_nil, Option.pure_def, Option.bind_eq_bind, Option.bind_some, tabOf_cons, flatT, flatE, flatC,
              and_self, and_true, true_and, implies_true, forall_const, not_true_eq_false, not_false_eq_true, false_implies, List.take_succ_cons, List.drop_succ_cons,
              List.take_zero, List.drop_zero, Bool.not_true, Bool.not_false, beq_self_eq_true, decide_true, decide_false, eq_self, Int.reduceEq, Int.reduceLE, Int.reduceLT,
              Bool.not_not, Bool.true_or, Bool.or_true, Bool.false_or, Bool.or_false, if_true, if_false, List.getElem?_nil, Kl_normal, Kl_exit, Kl_ret, fc65_0, fc65_1, fc65_2,
              fc65_3, fc65_4, fc65_5, fc65_6, fc65_7, fc65_8, fc65_9, fc65_10, fc65_11, fc65_12, fc65_13, fc65_14, fc65_15, fc65_16, fc65_17, fc65_18, fc65_19, fc65_20, fc65_21,
              fc65_22, fc65_23, fc65_24, fc65_25, cast_lit, toNat_lit, Int.reduceAdd, Int.reduceSub, Int.reduceMul, Int.reduceNeg, Int.reducePow, Nat.reducePow, Int.reduceToNat,
              Nat.reduceSub, Nat.mul_one, Int.toNat_zero, prod_eta, List.nil_append, List.cons_append, List.append_nil, Int.le_refl, Nat.le_refl, true_implies, take_all, vconv, vmm,
              vidxA, viaddrA, iaddr_sl, iaddr_lsl, getE, vfield, vlen, fillC, fillE, List.replicate, elemsOf, List.length_map, f2iK_eq, bits_i64, bits_i32, bits_u64, bits_u32,
              bits_u8, e_mov, g_mov, e_alloc, g_alloc, e_box, g_box, e_build, g_build, e_load, g_load, e_store, g_store, e_faddr, g_faddr, dF32_map, dF64_map, dI64_map, dU8_map,
              dBool_map, dStr_map, decL, dF32, dF64, dI64, dU8, dBool, dStr]
    repeat' (first
      | ((first | (refine eGI_of (fun h => ?_) (fun h => ?_)) | (refine eCc_of (fun h => ?_) (fun h => ?_))) <;> (try simp only [Bool.not_eq_true', Bool.not_eq_false'] at h) <;> simp only [h,
        eA_seq, eA_reg, eA_ret, eA_skip, eA_cond, eA_block, eA_exit, eCc_true, eCc_false, Kq_normal, Kq_ret, Kq_exit, Kb_normal, Kb_exit, Kb_ret, Kreg_eq, eI_nil, bindSt_some,
              bindSt_none, bindSt_ite, eR_eq, eGI_tt, eGI_ff, eGI_tf, eGI_ft, eop, vop, ev_t, ev_c, ev_f, Option.map, put_some, put_none, set_eq, setH_eq, get_eq, hp_eq, keep_cons,
              keep_nil, lk_cons, lk_nil, startSt, envOf, reduceIte, Nat.reduceEqDiff, Nat.reduceAdd, Nat.zero_add, Nat.add_zero, Nat.reduceMul, Nat.reduceLT, Nat.reduceLeDiff, bop,
              uop, intop, fltop, convop, true_or, or_true, Bool.false_eq_true, ret_ok, ret_normal, outV, rvV, rvs, ex_some, pureV, pureX, pureX.pure1', pure1, Bool.true_and,
              Bool.false_and, Bool.and_true, Bool.and_false, Option.isNone_none, AV.cells, AV.one, storable, laid, refless, refless1, List.all_cons, List.all_nil, List.length_cons,
              List.length_nil, List.getElem?_cons_zero, List.getElem?_cons_succ, List.set_cons_zero, List.set_cons_succ, List.set_nil, List.map_cons, List.map_nil, vload, loadC,
              storeC, vnil, vfaddr, vextract, callTo, List.mapM_cons, List.mapM_nil, Option.pure_def, Option.bind_eq_bind, Option.bind_some, tabOf_cons, flatT, flatE, flatC,
              and_self, and_true, true_and, implies_true, forall_const, not_true_eq_false, not_false_eq_true, false_implies, List.take_succ_cons, List.drop_succ_cons,
              List.take_zero, List.drop_zero, Bool.not_true, Bool.not_false, beq_self_eq_true, decide_true, decide_false, eq_self, Int.reduceEq, Int.reduceLE, Int.reduceLT,
              Bool.not_not, Bool.true_or, Bool.or_true, Bool.false_or, Bool.or_false, if_true, if_false, List.getElem?_nil, Kl_normal, Kl_exit, Kl_ret, fc65_0, fc65_1, fc65_2,
              fc65_3, fc65_4, fc65_5, fc65_6, fc65_7, fc65_8, fc65_9, fc65_10, fc65_11, fc65_12, fc65_13, fc65_14, fc65_15, fc65_16, fc65_17, fc65_18, fc65_19, fc65_20, fc65_21,
              fc65_22, fc65_23, fc65_24, fc65_25, cast_lit, toNat_lit, Int.reduceAdd, Int.reduceSub, Int.reduceMul, Int.reduceNeg, Int.reducePow, Nat.reducePow, Int.reduceToNat,
              Nat.reduceSub, Nat.mul_one, Int.toNat_zero, prod_eta, List.nil_append, List.cons_append, List.append_nil, Int.le_refl, Nat.le_refl, true_implies, take_all, vconv, vmm,
              vidxA, viaddrA, iaddr_sl, iaddr_lsl, getE, vfield, vlen, fillC, fillE, List.replicate, elemsOf, List.length_map, f2iK_eq, bits_i64, bits_i32, bits_u64, bits_u32,
              bits_u8, e_mov, g_mov, e_alloc, g_alloc, e_box, g_box, e_build, g_build, e_load, g_load, e_store, g_store, e_faddr, g_faddr, dF32_map, dF64_map, dI64_map, dU8_map,
              dBool_map, dStr_map, decL, dF32, dF64, dI64, dU8, dBool, dStr]))
    all_goals (try simp only [*, m_impl_turnOf, Bool.and_true, Bool.true_and, Bool.and_false, Bool.false_and, Bool.or_true, Bool.true_or, Bool.or_false, Bool.false_or, Bool.not_true, Bool.not_false, Bool.false_eq_true, if_true, if_false, reduceIte, decide_true, decide_false])
    all_goals (try (simp_all; done))
  · cases h
def m_impl_InnerOfTurns (x0 : (Nat × Nat × Nat × Nat)) (x1 : (Nat × Nat × Nat × Nat)) : Nat := (fadd .f32 (fadd .f32 (fadd .f32 (fmul .f32 x0.1 x1.1) (fmul .f32 x0.2.1 x1.2.1))
      (fmul .f32 x0.2.2.1 x1.2.2.1)) (fmul .f32 x0.2.2.2 x1.2.2.2))
def g_impl_InnerOfTurns : List AV → Option AV
  | [.agg [.flt .f32 y0, .flt .f32 y1, .flt .f32 y2, .flt .f32 y3], .agg [.flt .f32 y4, .flt .f32 y5, .flt .f32 y6, .flt .f32 y7]] =>
      some (.flt .f32 (m_impl_InnerOfTurns (y0, y1, y2, y3) (y4, y5, y6, y7)))
  | _ => none
def ic106 : ICode := (.seq (.reg [⟨(some 2), none, (.box 4 (.t 0))⟩, ⟨(some 3), none, (.box 4 (.t 1))⟩, ⟨(some 4), none, (.mov (.c (.flt .f32 0)))⟩] [2, 3]) (.seq (.reg [⟨(some 5),
      none, (.faddr 0 (.t 2))⟩, ⟨(some 6), none, (.load none (.t 5))⟩, ⟨(some 7), none, (.faddr 0 (.t 3))⟩, ⟨(some 8), none, (.load none (.t 7))⟩, ⟨(some 9), none, (.bin .mul false
      (.t 6) (.t 8))⟩, ⟨(some 10), none, (.faddr 1 (.t 2))⟩, ⟨(some 11), none, (.load none (.t 10))⟩, ⟨(some 12), none, (.faddr 1 (.t 3))⟩, ⟨(some 13), none, (.load none (.t 12))⟩,
      ⟨(some 14), none, (.bin .mul false (.t 11) (.t 13))⟩, ⟨(some 15), none, (.bin .add false (.t 9) (.t 14))⟩, ⟨(some 16), none, (.faddr 2 (.t 2))⟩, ⟨(some 17), none, (.load none
      (.t 16))⟩, ⟨(some 18), none, (.faddr 2 (.t 3))⟩, ⟨(some 19), none, (.load none (.t 18))⟩, ⟨(some 20), none, (.bin .mul false (.t 17) (.t 19))⟩, ⟨(some 21), none, (.bin .add
      false (.t 15) (.t 20))⟩, ⟨(some 22), none, (.faddr 3 (.t 2))⟩, ⟨(some 23), none, (.load none (.t 22))⟩, ⟨(some 24), none, (.faddr 3 (.t 3))⟩, ⟨(some 25), none, (.load none (.t
      24))⟩, ⟨(some 26), none, (.bin .mul false (.t 23) (.t 25))⟩, ⟨(some 27), none, (.bin .add false (.t 21) (.t 26))⟩, ⟨(some 4), none, (.mov (.t 27))⟩] [4]) .ret))
def cp106 : CP := { n := 28, kp := [[2, 3], [4]] }
theorem fc106_0 : IntKind.wrap .i64 (-1) = (-1) := by decide
theorem fc106_1 : IntKind.wrap .i64 0 = 0 := by decide
theorem fc106_2 : IntKind.wrap .i64 1 = 1 := by decide
theorem fc106_3 : IntKind.wrap .i64 10 = 10 := by decide
theorem fc106_4 : IntKind.wrap .i64 11 = 11 := by decide
theorem fc106_5 : IntKind.wrap .i64 110 = 110 := by decide
theorem fc106_6 : IntKind.wrap .i64 12 = 12 := by decide
theorem fc106_7 : IntKind.wrap .i64 13 = 13 := by decide
theorem fc106_8 : IntKind.wrap .i64 14 = 14 := by decide
theorem fc106_9 : IntKind.wrap .i64 15 = 15 := by decide
theorem fc106_10 : IntKind.wrap .i64 156 = 156 := by decide
theorem fc106_11 : IntKind.wrap .i64 16 = 16 := by decide
theorem fc106_12 : IntKind.wrap .i64 17 = 17 := by decide
theorem fc106_13 : IntKind.wrap .i64 2 = 2 := by decide
theorem fc106_14 : IntKind.wrap .i64 20 = 20 := by decide
theorem fc106_15 : IntKind.wrap .i64 210 = 210 := by decide
theorem fc106_16 : IntKind.wrap .i64 272 = 272 := by decide
theorem fc106_17 : IntKind.wrap .i64 3 = 3 := by decide
theorem fc106_18 : IntKind.wrap .i64 4 = 4 := by decide
theorem fc106_19 : IntKind.wrap .i64 42 = 42 := by decide
theorem fc106_20 : IntKind.wrap .i64 5 = 5 := by decide
theorem fc106_21 : IntKind.wrap .i64 6 = 6 := by decide
theorem fc106_22 : IntKind.wrap .i64 7 = 7 := by decide
theorem fc106_23 : IntKind.wrap .i64 72 = 72 := by decide
theorem fc106_24 : IntKind.wrap .i64 8 = 8 := by decide
theorem fc106_25 : IntKind.wrap .i64 9 = 9 := by decide
theorem s106 : ∀ vs r, g_impl_InnerOfTurns vs = some r → Says Try.prog 106 vs r := by
  intro vs r h
  unfold g_impl_InnerOfTurns at h
  split at h
  · rename_i y0 y1 y2 y3 y4 y5 y6 y7
    cases h
    refine spec_of (tab := tabOf []) (cp := cp106) (ic := ic106) (rvl := [(.t 4)]) hm tabOk_nil Try.func106 rfl rfl rfl (by kernel_rfl) rfl (Nat.le_of_ble_eq_true rfl) ?_
    show eA _ _ _ _
    unfold ic106
    simp only [
        eA_seq, eA_reg, eA_ret, eA_skip, eA_cond, eA_block, eA_exit, eCc_true, eCc_false, Kq_normal, Kq_ret, Kq_exit, Kb_normal, Kb_exit, Kb_ret, Kreg_eq, eI_nil, bindSt_some,
              bindSt_none, bindSt_ite, eR_eq, eGI_tt, eGI_ff, eGI_tf, eGI_ft, eop, vop, ev_t, ev_c, ev_f, Option.map, put_some, put_none, set_eq, setH_eq, get_eq, hp_eq, keep_cons,
              keep_nil, lk_cons, lk_nil, startSt, envOf, reduceIte, Nat.reduceEqDiff, Nat.reduceAdd, Nat.zero_add, Nat.add_zero, Nat.reduceMul, Nat.reduceLT, Nat.reduceLeDiff, bop,
              uop, intop, fltop, convop, true_or, or_true, Bool.false_eq_true, ret_ok, ret_normal, outV, rvV, rvs, ex_some, pureV, pureX, pureX.pure1', pure1, Bool.true_and,
              Bool.false_and, Bool.and_true, Bool.and_false, Option.isNone_none, AV.cells, AV.one, storable, laid, refless, refless1, List.all_cons, List.all_nil, List.length_cons,
              List.length_nil, List.getElem?_cons_zero, List.getElem?_cons_succ, List.set_cons_zero, List.set_cons_succ, List.set_nil, List.map_cons, List.map_nil, vload, loadC,
              storeC, vnil, vfaddr, vextract, callTo, List.mapM_cons, List.mapM_nil, Option.pure_def, Option.bind_eq_bind, Option.bind_some, tabOf_cons, flatT, flatE, flatC,
              and_self, and_true, true_and, implies_true, forall_const, not_true_eq_false, not_false_eq_true, false_implies, List.take_succ_cons, List.drop_succ_cons,
              List.take_zero, List.drop_zero, Bool.not_true, Bool.not_false, beq_self_eq_true, decide_true, decide_false, eq_self, Int.reduceEq, Int.reduceLE, Int.reduceLT,
              Bool.not_not, Bool.true_or, Bool.or_true, Bool.false_or, Bool.or_false, if_true, if_false, List.getElem?_nil, Kl_normal, Kl_exit, Kl_ret, fc106_0, fc106_1, fc106_2,
              fc106_3, fc106_4, fc106_5, fc106_6, fc106_7, fc106_8, fc106_9, fc106_10, fc106_11, fc106_12, fc106_13, fc106_14, fc106_15, fc106_16, fc106_17, fc106_18, fc106_19,
              fc106_20, fc106_21, fc106_22, fc106_23, fc106_24, fc106_25, cast_lit, toNat_lit, Int.reduceAdd, Int.reduceSub, Int.reduceMul, Int.reduceNeg, Int.reducePow,
              Nat.reducePow, Int.reduceToNat, Nat.reduceSub, Nat.mul_one, Int.toNat_zero, prod_eta, List.nil_append, List.cons_append, List.append_nil, Int.le_refl, Nat.le_refl,
              true_implies, take_all, vconv, vmm, vidxA, viaddrA, iaddr_sl, iaddr_lsl, getE, vfield, vlen, fillC, fillE, List.replicate, elemsOf, List.length_map, f2iK_eq, bits_i64,
              bits_i32, bits_u64, bits_u32, bits_u8, e_mov, g_mov, e_box, g_box, e_load, g_load, e_bin, g_bin, e_faddr, g_faddr, dF32_map, dF64_map, dI64_map, dU8_map, dBool_map,
              dStr_map, decL, dF32, dF64, dI64, dU8, dBool, dStr]
    repeat' (first
      | ((first | (refine eGI_of (fun h => ?_) (fun h => ?_)) | (refine eCc_of (fun h => ?_) (fun h => ?_))) <;> (try simp only [Bool.not_eq_true', Bool.not_eq_false'] at h) <;> simp only [h,
        eA_seq, eA_reg, eA_ret, eA_skip, eA_cond, eA_block, eA_exit, eCc_true, eCc_false, Kq_normal, Kq_ret, Kq_exit, Kb_normal, Kb_exit, Kb_ret, Kreg_eq, eI_nil, bindSt_some,
              bindSt_none, bindSt_ite, eR_eq, eGI_tt, eGI_ff, eGI_tf, eGI_ft, eop, vop, ev_t, ev_c, ev_f, Option.map, put_some, put_none, set_eq, setH_eq, get_eq, hp_eq, keep_cons,
              keep_nil, lk_cons, lk_nil, startSt, envOf, reduceIte, Nat.reduceEqDiff, Nat.reduceAdd, Nat.zero_add, Nat.add_zero, Nat.reduceMul, Nat.reduceLT, Nat.reduceLeDiff, bop,
              uop, intop, fltop, convop, true_or, or_true, Bool.false_eq_true, ret_ok, ret_normal, outV, rvV, rvs, ex_some, pureV, pureX, pureX.pure1', pure1, Bool.true_and,
              Bool.false_and, Bool.and_true, Bool.and_false, Option.isNone_none, AV.cells, AV.one, storable, laid, refless, refless1, List.all_cons, List.all_nil, List.length_cons,
              List.length_nil, List.getElem?_cons_zero, List.getElem?_cons_succ, List.set_cons_zero, List.set_cons_succ, List.set_nil, List.map_cons, List.map_nil, vload, loadC,
              storeC, vnil, vfaddr, vextract, callTo, List.mapM_cons, List.mapM_nil, Option.pure_def, Option.bind_eq_bind, Option.bind_some, tabOf_cons, flatT, flatE, flatC,
              and_self, and_true, true_and, implies_true, forall_const, not_true_eq_false, not_false_eq_true, false_implies, List.take_succ_cons, List.drop_succ_cons,
              List.take_zero, List.drop_zero, Bool.not_true, Bool.not_false, beq_self_eq_true, decide_true, decide_false, eq_self, Int.reduceEq, Int.reduceLE, Int.reduceLT,
              Bool.not_not, Bool.true_or, Bool.or_true, Bool.false_or, Bool.or_false, if_true, if_false, List.getElem?_nil, Kl_normal, Kl_exit, Kl_ret, fc106_0, fc106_1, fc106_2,
              fc106_3, fc106_4, fc106_5, fc106_6, fc106_7, fc106_8, fc106_9, fc106_10, fc106_11, fc106_12, fc106_13, fc106_14, fc106_15, fc106_16, fc106_17, fc106_18, fc106_19,
              fc106_20, fc106_21, fc106_22, fc106_23, fc106_24, fc106_25, cast_lit, toNat_lit, Int.reduceAdd, Int.reduceSub, Int.reduceMul, Int.reduceNeg, Int.reducePow,
              Nat.reducePow, Int.reduceToNat, Nat.reduceSub, Nat.mul_one, Int.toNat_zero, prod_eta, List.nil_append, List.cons_append, List.append_nil, Int.le_refl, Nat.le_refl,
              true_implies, take_all, vconv, vmm, vidxA, viaddrA, iaddr_sl, iaddr_lsl, getE, vfield, vlen, fillC, fillE, List.replicate, elemsOf, List.length_map, f2iK_eq, bits_i64,
              bits_i32, bits_u64, bits_u32, bits_u8, e_mov, g_mov, e_box, g_box, e_load, g_load, e_bin, g_bin, e_faddr, g_faddr, dF32_map, dF64_map, dI64_map, dU8_map, dBool_map,
              dStr_map, decL, dF32, dF64, dI64, dU8, dBool, dStr]))
    all_goals (try simp only [*, m_impl_InnerOfTurns, Bool.and_true, Bool.true_and, Bool.and_false, Bool.false_and, Bool.or_true, Bool.true_or, Bool.or_false, Bool.false_or, Bool.not_true, Bool.not_false, Bool.false_eq_true, if_true, if_false, reduceIte, decide_true, decide_false])
    all_goals (try (simp_all; done))
  · cases h
def m_impl_LengthOfTurn (x0 : (Nat × Nat × Nat × Nat)) : Nat := (m_impl_RootNumber (m_impl_InnerOfTurns x0 x0))
def p_impl_LengthOfTurn (x0 : (Nat × Nat × Nat × Nat)) : Bool := (p_impl_RootNumber (m_impl_InnerOfTurns x0 x0))
def g_impl_LengthOfTurn : List AV → Option AV
  | [.agg [.flt .f32 y0, .flt .f32 y1, .flt .f32 y2, .flt .f32 y3]] => if p_impl_LengthOfTurn (y0, y1, y2, y3) = true then some (.flt
      .f32 (m_impl_LengthOfTurn (y0, y1, y2, y3))) else none
  | _ => none
def ic102 : ICode := (.seq (.reg [⟨(some 1), none, (.box 4 (.t 0))⟩, ⟨(some 2), none, (.mov (.c (.flt .f32 0)))⟩] [1]) (.seq (.reg [⟨(some 3), none, (.load (some 4) (.t 1))⟩, ⟨(some
      4), none, (.load (some 4) (.t 1))⟩, ⟨(some 5), none, (.call (.fn 106) [(.t 3), (.t 4)] [])⟩, ⟨(some 6), none, (.call (.fn 46) [(.t 5)] [])⟩, ⟨(some 2), none, (.mov (.t 6))⟩]
      [2]) .ret))
def cp102 : CP := { n := 7, kp := [[1], [2]] }
theorem fc102_0 : IntKind.wrap .i64 (-1) = (-1) := by decide
theorem fc102_1 : IntKind.wrap .i64 0 = 0 := by decide
theorem fc102_2 : IntKind.wrap .i64 1 = 1 := by decide
theorem fc102_3 : IntKind.wrap .i64 10 = 10 := by decide
theorem fc102_4 : IntKind.wrap .i64 11 = 11 := by decide
theorem fc102_5 : IntKind.wrap .i64 110 = 110 := by decide
theorem fc102_6 : IntKind.wrap .i64 12 = 12 := by decide
theorem fc102_7 : IntKind.wrap .i64 13 = 13 := by decide
theorem fc102_8 : IntKind.wrap .i64 14 = 14 := by decide
theorem fc102_9 : IntKind.wrap .i64 15 = 15 := by decide
theorem fc102_10 : IntKind.wrap .i64 156 = 156 := by decide
theorem fc102_11 : IntKind.wrap .i64 16 = 16 := by decide
theorem fc102_12 : IntKind.wrap .i64 17 = 17 := by decide
theorem fc102_13 : IntKind.wrap .i64 2 = 2 := by decide
theorem fc102_14 : IntKind.wrap .i64 20 = 20 := by decide
theorem fc102_15 : IntKind.wrap .i64 210 = 210 := by decide
theorem fc102_16 : IntKind.wrap .i64 272 = 272 := by decide
theorem fc102_17 : IntKind.wrap .i64 3 = 3 := by decide
theorem fc102_18 : IntKind.wrap .i64 4 = 4 := by decide
theorem fc102_19 : IntKind.wrap .i64 42 = 42 := by decide
theorem fc102_20 : IntKind.wrap .i64 5 = 5 := by decide
theorem fc102_21 : IntKind.wrap .i64 6 = 6 := by decide
theorem fc102_22 : IntKind.wrap .i64 7 = 7 := by decide
theorem fc102_23 : IntKind.wrap .i64 72 = 72 := by decide
theorem fc102_24 : IntKind.wrap .i64 8 = 8 := by decide
theorem fc102_25 : IntKind.wrap .i64 9 = 9 := by decide
theorem s102 : ∀ vs r, g_impl_LengthOfTurn vs = some r → Says Try.prog 102 vs r := by
  intro vs r h
  unfold g_impl_LengthOfTurn at h
  split at h
  · rename_i y0 y1 y2 y3
    split at h
    · rename_i hp
      cases h
      refine spec_of (tab := tabOf [(46, g_impl_RootNumber), (106, g_impl_InnerOfTurns)]) (cp := cp102) (ic := ic102) (rvl := [(.t 2)]) hm (tabOk_cons s46 (tabOk_cons s106 tabOk_nil)) Try.func102 rfl rfl rfl (by kernel_rfl) rfl (Nat.le_of_ble_eq_true rfl) ?_
      show eA _ _ _ _
      unfold ic102
      simp only [p_impl_LengthOfTurn, Bool.and_eq_true, Bool.or_eq_true, decide_eq_true_eq, Bool.not_eq_true', decide_eq_false_iff_not] at hp
      simp only [
          hp, eA_seq, eA_reg, eA_ret, eA_skip, eA_cond, eA_block, eA_exit, eCc_true, eCc_false, Kq_normal, Kq_ret, Kq_exit, Kb_normal, Kb_exit, Kb_ret, Kreg_eq, eI_nil, bindSt_some,
                bindSt_none, bindSt_ite, eR_eq, eGI_tt, eGI_ff, eGI_tf, eGI_ft, eop, vop, ev_t, ev_c, ev_f, Option.map, put_some, put_none, set_eq, setH_eq, get_eq, hp_eq,
                keep_cons, keep_nil, lk_cons, lk_nil, startSt, envOf, reduceIte, Nat.reduceEqDiff, Nat.reduceAdd, Nat.zero_add, Nat.add_zero, Nat.reduceMul, Nat.reduceLT,
                Nat.reduceLeDiff, bop, uop, intop, fltop, convop, true_or, or_true, Bool.false_eq_true, ret_ok, ret_normal, outV, rvV, rvs, ex_some, pureV, pureX, pureX.pure1',
                pure1, Bool.true_and, Bool.false_and, Bool.and_true, Bool.and_false, Option.isNone_none, AV.cells, AV.one, storable, laid, refless, refless1, List.all_cons,
                List.all_nil, List.length_cons, List.length_nil, List.getElem?_cons_zero, List.getElem?_cons_succ, List.set_cons_zero, List.set_cons_succ, List.set_nil,
                List.map_cons, List.map_nil, vload, loadC, storeC, vnil, vfaddr, vextract, callTo, List.mapM_cons, List.mapM_nil, Option.pure_def, Option.bind_eq_bind,
                Option.bind_some, tabOf_cons, flatT, flatE, flatC, and_self, and_true, true_and, implies_true, forall_const, not_true_eq_false, not_false_eq_true, false_implies,
                List.take_succ_cons, List.drop_succ_cons, List.take_zero, List.drop_zero, Bool.not_true, Bool.not_false, beq_self_eq_true, decide_true, decide_false, eq_self,
                Int.reduceEq, Int.reduceLE, Int.reduceLT, Bool.not_not, Bool.true_or, Bool.or_true, Bool.false_or, Bool.or_false, if_true, if_false, List.getElem?_nil, Kl_normal,
                Kl_exit, Kl_ret, fc102_0, fc102_1, fc102_2, fc102_3, fc102_4, fc102_5, fc102_6, fc102_7, fc102_8, fc102_9, fc102_10, fc102_11, fc102_12, fc102_13, fc102_14,
                fc102_15, fc102_16, fc102_17, fc102_18, fc102_19, fc102_20, fc102_21, fc102_22, fc102_23, fc102_24, fc102_25, cast_lit, toNat_lit, Int.reduceAdd, Int.reduceSub,
                Int.reduceMul, Int.reduceNeg, Int.reducePow, Nat.reducePow, Int.reduceToNat, Nat.reduceSub, Nat.mul_one, Int.toNat_zero, prod_eta, List.nil_append, List.cons_append,
                List.append_nil, Int.le_refl, Nat.le_refl, true_implies, take_all, vconv, vmm, vidxA, viaddrA, iaddr_sl, iaddr_lsl, getE, vfield, vlen, fillC, fillE, List.replicate,
                elemsOf, List.length_map, f2iK_eq, bits_i64, bits_i32, bits_u64, bits_u32, bits_u8, e_mov, g_mov, e_box, g_box, e_load, g_load, e_call, g_call, g_impl_RootNumber,
                g_impl_InnerOfTurns, dF32_map, dF64_map, dI64_map, dU8_map, dBool_map, dStr_map, decL, dF32, dF64, dI64, dU8, dBool, dStr]
      repeat' (first
        | ((first | (refine eGI_of (fun h => ?_) (fun h => ?_)) | (refine eCc_of (fun h => ?_) (fun h => ?_))) <;> (try simp only [Bool.not_eq_true', Bool.not_eq_false'] at h) <;> (try simp only [h, reduceCtorEq, Bool.not_eq_true', decide_eq_false_iff_not, Bool.not_true, Bool.not_false, Bool.false_or, Bool.true_or, Bool.true_and, Bool.false_and, Bool.and_eq_true, Bool.or_eq_true, if_true, if_false, reduceIte, Bool.false_eq_true, and_true, true_and, false_or, or_false, decide_eq_true_eq, not_false_eq_true, not_true_eq_false] at hp) <;> (try (have h2 := h; simp only [decide_eq_true_eq, decide_eq_false_iff_not] at h2; (first | (replace h2 := eq_false h2) | (replace h2 := eq_true h2)); simp only [h2, if_true, if_false, false_or, true_or, or_true, or_false, and_true, true_and, not_false_eq_true, not_true_eq_false] at hp)) <;> simp only [h,
          hp, eA_seq, eA_reg, eA_ret, eA_skip, eA_cond, eA_block, eA_exit, eCc_true, eCc_false, Kq_normal, Kq_ret, Kq_exit, Kb_normal, Kb_exit, Kb_ret, Kreg_eq, eI_nil, bindSt_some,
                bindSt_none, bindSt_ite, eR_eq, eGI_tt, eGI_ff, eGI_tf, eGI_ft, eop, vop, ev_t, ev_c, ev_f, Option.map, put_some, put_none, set_eq, setH_eq, get_eq, hp_eq,
                keep_cons, keep_nil, lk_cons, lk_nil, startSt, envOf, reduceIte, Nat.reduceEqDiff, Nat.reduceAdd, Nat.zero_add, Nat.add_zero, Nat.reduceMul, Nat.reduceLT,
                Nat.reduceLeDiff, bop, uop, intop, fltop, convop, true_or, or_true, Bool.false_eq_true, ret_ok, ret_normal, outV, rvV, rvs, ex_some, pureV, pureX, pureX.pure1',
                pure1, Bool.true_and, Bool.false_and, Bool.and_true, Bool.and_false, Option.isNone_none, AV.cells, AV.one, storable, laid, refless, refless1, List.all_cons,
                List.all_nil, List.length_cons, List.length_nil, List.getElem?_cons_zero, List.getElem?_cons_succ, List.set_cons_zero, List.set_cons_succ, List.set_nil,
                List.map_cons, List.map_nil, vload, loadC, storeC, vnil, vfaddr, vextract, callTo, List.mapM_cons, List.mapM_nil, Option.pure_def, Option.bind_eq_bind,
                Option.bind_some, tabOf_cons, flatT, flatE, flatC, and_self, and_true, true_and, implies_true, forall_const, not_true_eq_false, not_false_eq_true, false_implies,
                List.take_succ_cons, List.drop_succ_cons, List.take_zero, List.drop_zero, Bool.not_true, Bool.not_false, beq_self_eq_true, decide_true, decide_false, eq_self,
                Int.reduceEq, Int.reduceLE, Int.reduceLT, Bool.not_not, Bool.true_or, Bool.or_true, Bool.false_or, Bool.or_false, if_true, if_false, List.getElem?_nil, Kl_normal,
                Kl_exit, Kl_ret, fc102_0, fc102_1, fc102_2, fc102_3, fc102_4, fc102_5, fc102_6, fc102_7, fc102_8, fc102_9, fc102_10, fc102_11, fc102_12, fc102_13, fc102_14,
                fc102_15, fc102_16, fc102_17, fc102_18, fc102_19, fc102_20, fc102_21, fc102_22, fc102_23, fc102_24, fc102_25, cast_lit, toNat_lit, Int.reduceAdd, Int.reduceSub,
                Int.reduceMul, Int.reduceNeg, Int.reducePow, Nat.reducePow, Int.reduceToNat, Nat.reduceSub, Nat.mul_one, Int.toNat_zero, prod_eta, List.nil_append, List.cons_append,
                List.append_nil, Int.le_refl, Nat.le_refl, true_implies, take_all, vconv, vmm, vidxA, viaddrA, iaddr_sl, iaddr_lsl, getE, vfield, vlen, fillC, fillE, List.replicate,
                elemsOf, List.length_map, f2iK_eq, bits_i64, bits_i32, bits_u64, bits_u32, bits_u8, e_mov, g_mov, e_box, g_box, e_load, g_load, e_call, g_call, g_impl_RootNumber,
                g_impl_InnerOfTurns, dF32_map, dF64_map, dI64_map, dU8_map, dBool_map, dStr_map, decL, dF32, dF64, dI64, dU8, dBool, dStr]))
      all_goals (try simp only [*, m_impl_LengthOfTurn, Bool.and_true, Bool.true_and, Bool.and_false, Bool.false_and, Bool.or_true, Bool.true_or, Bool.or_false, Bool.false_or, Bool.not_true, Bool.not_false, Bool.false_eq_true, if_true, if_false, reduceIte, decide_true, decide_false])
      all_goals (try (simp_all; done))
    · cases h
  · cases h
def m_impl_IsFinite (x0 : Nat) : Bool := (feq .f32 (fsub .f32 x0 x0) 0)
def g_impl_IsFinite : List AV → Option AV
  | [.flt .f32 y0] => some (.bool (m_impl_IsFinite y0))
  | _ => none
def ic51 : ICode := (.seq (.reg [⟨(some 2), none, (.mov (.c (.bool false)))⟩] [0]) (.seq (.reg [⟨(some 3), none, (.mov (.t 0))⟩, ⟨(some 4), none, (.mov (.t 0))⟩, ⟨(some 5), none,
      (.bin .sub false (.t 3) (.t 4))⟩, ⟨(some 6), none, (.bin .eql false (.t 5) (.c (.flt .f32 0)))⟩, ⟨(some 2), none, (.mov (.t 6))⟩] [2]) .ret))
def cp51 : CP := { n := 7, kp := [[0], [2]] }
theorem fc51_0 : IntKind.wrap .i64 (-1) = (-1) := by decide
theorem fc51_1 : IntKind.wrap .i64 0 = 0 := by decide
theorem fc51_2 : IntKind.wrap .i64 1 = 1 := by decide
theorem fc51_3 : IntKind.wrap .i64 10 = 10 := by decide
theorem fc51_4 : IntKind.wrap .i64 11 = 11 := by decide
theorem fc51_5 : IntKind.wrap .i64 110 = 110 := by decide
theorem fc51_6 : IntKind.wrap .i64 12 = 12 := by decide
theorem fc51_7 : IntKind.wrap .i64 13 = 13 := by decide
theorem fc51_8 : IntKind.wrap .i64 14 = 14 := by decide
theorem fc51_9 : IntKind.wrap .i64 15 = 15 := by decide
theorem fc51_10 : IntKind.wrap .i64 156 = 156 := by decide
theorem fc51_11 : IntKind.wrap .i64 16 = 16 := by decide
theorem fc51_12 : IntKind.wrap .i64 17 = 17 := by decide
theorem fc51_13 : IntKind.wrap .i64 2 = 2 := by decide
theorem fc51_14 : IntKind.wrap .i64 20 = 20 := by decide
theorem fc51_15 : IntKind.wrap .i64 210 = 210 := by decide
theorem fc51_16 : IntKind.wrap .i64 272 = 272 := by decide
theorem fc51_17 : IntKind.wrap .i64 3 = 3 := by decide
theorem fc51_18 : IntKind.wrap .i64 4 = 4 := by decide
theorem fc51_19 : IntKind.wrap .i64 42 = 42 := by decide
theorem fc51_20 : IntKind.wrap .i64 5 = 5 := by decide
theorem fc51_21 : IntKind.wrap .i64 6 = 6 := by decide
theorem fc51_22 : IntKind.wrap .i64 7 = 7 := by decide
theorem fc51_23 : IntKind.wrap .i64 72 = 72 := by decide
theorem fc51_24 : IntKind.wrap .i64 8 = 8 := by decide
theorem fc51_25 : IntKind.wrap .i64 9 = 9 := by decide
theorem s51 : ∀ vs r, g_impl_IsFinite vs = some r → Says Try.prog 51 vs r := by
  intro vs r h
  unfold g_impl_IsFinite at h
  split at h
  · rename_i y0
    cases h
    refine spec_of (tab := tabOf []) (cp := cp51) (ic := ic51) (rvl := [(.t 2)]) hm tabOk_nil Try.func51 rfl rfl rfl (by kernel_rfl) rfl (Nat.le_of_ble_eq_true rfl) ?_
    show eA _ _ _ _
    unfold ic51
    simp only [
        eA_seq, eA_reg, eA_ret, eA_skip, eA_cond, eA_block, eA_exit, eCc_true, eCc_false, Kq_normal, Kq_ret, Kq_exit, Kb_normal, Kb_exit, Kb_ret, Kreg_eq, eI_nil, bindSt_some,
              bindSt_none, bindSt_ite, eR_eq, eGI_tt, eGI_ff, eGI_tf, eGI_ft, eop, vop, ev_t, ev_c, ev_f, Option.map, put_some, put_none, set_eq, setH_eq, get_eq, hp_eq, keep_cons,
              keep_nil, lk_cons, lk_nil, startSt, envOf, reduceIte, Nat.reduceEqDiff, Nat.reduceAdd, Nat.zero_add, Nat.add_zero, Nat.reduceMul, Nat.reduceLT, Nat.reduceLeDiff, bop,
              uop, intop, fltop, convop, true_or, or_true, Bool.false_eq_true, ret_ok, ret_normal, outV, rvV, rvs, ex_some, pureV, pureX, pureX.pure1', pure1, Bool.true_and,
              Bool.false_and, Bool.and_true, Bool.and_false, Option.isNone_none, AV.cells, AV.one, storable, laid, refless, refless1, List.all_cons, List.all_nil, List.length_cons,
              List.length_nil, List.getElem?_cons_zero, List.getElem?_cons_succ, List.set_cons_zero, List.set_cons_succ, List.set_nil, List.map_cons, List.map_nil, vload, loadC,
              storeC, vnil, vfaddr, vextract, callTo, List.mapM_cons, List.mapM_nil, Option.pure_def, Option.bind_eq_bind, Option.bind_some, tabOf_cons, flatT, flatE, flatC,
              and_self, and_true, true_and, implies_true, forall_const, not_true_eq_false, not_false_eq_true, false_implies, List.take_succ_cons, List.drop_succ_cons,
              List.take_zero, List.drop_zero, Bool.not_true, Bool.not_false, beq_self_eq_true, decide_true, decide_false, eq_self, Int.reduceEq, Int.reduceLE, Int.reduceLT,
              Bool.not_not, Bool.true_or, Bool.or_true, Bool.false_or, Bool.or_false, if_true, if_false, List.getElem?_nil, Kl_normal, Kl_exit, Kl_ret, fc51_0, fc51_1, fc51_2,
              fc51_3, fc51_4, fc51_5, fc51_6, fc51_7, fc51_8, fc51_9, fc51_10, fc51_11, fc51_12, fc51_13, fc51_14, fc51_15, fc51_16, fc51_17, fc51_18, fc51_19, fc51_20, fc51_21,
              fc51_22, fc51_23, fc51_24, fc51_25, cast_lit, toNat_lit, Int.reduceAdd, Int.reduceSub, Int.reduceMul, Int.reduceNeg, Int.reducePow, Nat.reducePow, Int.reduceToNat,
              Nat.reduceSub, Nat.mul_one, Int.toNat_zero, prod_eta, List.nil_append, List.cons_append, List.append_nil, Int.le_refl, Nat.le_refl, true_implies, take_all, vconv, vmm,
              vidxA, viaddrA, iaddr_sl, iaddr_lsl, getE, vfield, vlen, fillC, fillE, List.replicate, elemsOf, List.length_map, f2iK_eq, bits_i64, bits_i32, bits_u64, bits_u32,
              bits_u8, e_mov, g_mov, e_bin, g_bin, dF32_map, dF64_map, dI64_map, dU8_map, dBool_map, dStr_map, decL, dF32, dF64, dI64, dU8, dBool, dStr]
    repeat' (first
      | ((first | (refine eGI_of (fun h => ?_) (fun h => ?_)) | (refine eCc_of (fun h => ?_) (fun h => ?_))) <;> (try simp only [Bool.not_eq_true', Bool.not_eq_false'] at h) <;> simp only [h,
        eA_seq, eA_reg, eA_ret, eA_skip, eA_cond, eA_block, eA_exit, eCc_true, eCc_false, Kq_normal, Kq_ret, Kq_exit, Kb_normal, Kb_exit, Kb_ret, Kreg_eq, eI_nil, bindSt_some,
              bindSt_none, bindSt_ite, eR_eq, eGI_tt, eGI_ff, eGI_tf, eGI_ft, eop, vop, ev_t, ev_c, ev_f, Option.map, put_some, put_none, set_eq, setH_eq, get_eq, hp_eq, keep_cons,
              keep_nil, lk_cons, lk_nil, startSt, envOf, reduceIte, Nat.reduceEqDiff, Nat.reduceAdd, Nat.zero_add, Nat.add_zero, Nat.reduceMul, Nat.reduceLT, Nat.reduceLeDiff, bop,
              uop, intop, fltop, convop, true_or, or_true, Bool.false_eq_true, ret_ok, ret_normal, outV, rvV, rvs, ex_some, pureV, pureX, pureX.pure1', pure1, Bool.true_and,
              Bool.false_and, Bool.and_true, Bool.and_false, Option.isNone_none, AV.cells, AV.one, storable, laid, refless, refless1, List.all_cons, List.all_nil, List.length_cons,
              List.length_nil, List.getElem?_cons_zero, List.getElem?_cons_succ, List.set_cons_zero, List.set_cons_succ, List.set_nil, List.map_cons, List.map_nil, vload, loadC,
              storeC, vnil, vfaddr, vextract, callTo, List.mapM_cons, List.mapM_nil, Option.pure_def, Option.bind_eq_bind, Option.bind_some, tabOf_cons, flatT, flatE, flatC,
              and_self, and_true, true_and, implies_true, forall_const, not_true_eq_false, not_false_eq_true, false_implies, List.take_succ_cons, List.drop_succ_cons,
              List.take_zero, List.drop_zero, Bool.not_true, Bool.not_false, beq_self_eq_true, decide_true, decide_false, eq_self, Int.reduceEq, Int.reduceLE, Int.reduceLT,
              Bool.not_not, Bool.true_or, Bool.or_true, Bool.false_or, Bool.or_false, if_true, if_false, List.getElem?_nil, Kl_normal, Kl_exit, Kl_ret, fc51_0, fc51_1, fc51_2,
              fc51_3, fc51_4, fc51_5, fc51_6, fc51_7, fc51_8, fc51_9, fc51_10, fc51_11, fc51_12, fc51_13, fc51_14, fc51_15, fc51_16, fc51_17, fc51_18, fc51_19, fc51_20, fc51_21,
              fc51_22, fc51_23, fc51_24, fc51_25, cast_lit, toNat_lit, Int.reduceAdd, Int.reduceSub, Int.reduceMul, Int.reduceNeg, Int.reducePow, Nat.reducePow, Int.reduceToNat,
              Nat.reduceSub, Nat.mul_one, Int.toNat_zero, prod_eta, List.nil_append, List.cons_append, List.append_nil, Int.le_refl, Nat.le_refl, true_implies, take_all, vconv, vmm,
              vidxA, viaddrA, iaddr_sl, iaddr_lsl, getE, vfield, vlen, fillC, fillE, List.replicate, elemsOf, List.length_map, f2iK_eq, bits_i64, bits_i32, bits_u64, bits_u32,
              bits_u8, e_mov, g_mov, e_bin, g_bin, dF32_map, dF64_map, dI64_map, dU8_map, dBool_map, dStr_map, decL, dF32, dF64, dI64, dU8, dBool, dStr]))
    all_goals (try simp only [*, m_impl_IsFinite, Bool.and_true, Bool.true_and, Bool.and_false, Bool.false_and, Bool.or_true, Bool.true_or, Bool.or_false, Bool.false_or, Bool.not_true, Bool.not_false, Bool.false_eq_true, if_true, if_false, reduceIte, decide_true, decide_false])
    all_goals (try (simp_all; done))
  · cases h
def m_impl_isLength (x0 : Nat) : Bool := (if (m_impl_IsFinite x0) = true then (!(feq .f32 x0 0)) else false)
def g_impl_isLength : List AV → Option AV
  | [.flt .f32 y0] => some (.bool (m_impl_isLength y0))
  | _ => none
def ic44 : ICode := (.seq (.reg [⟨(some 2), none, (.mov (.c (.bool false)))⟩] [0]) (.seq (.reg [⟨(some 3), none, (.mov (.t 0))⟩, ⟨(some 4), none, (.call (.fn 51) [(.t 3)] [])⟩,
      ⟨(some 5), none, (.mov (.t 4))⟩, ⟨(some 6), (some (5, true)), (.mov (.t 0))⟩, ⟨(some 7), (some (5, true)), (.bin .neq false (.t 6) (.c (.flt .f32 0)))⟩, ⟨(some 8), none,
      (.pick (.t 5) (.t 7) (.c (.bool false)))⟩, ⟨(some 2), none, (.mov (.t 8))⟩] [2]) .ret))
def cp44 : CP := { n := 9, kp := [[0], [2]] }
theorem fc44_0 : IntKind.wrap .i64 (-1) = (-1) := by decide
theorem fc44_1 : IntKind.wrap .i64 0 = 0 := by decide
theorem fc44_2 : IntKind.wrap .i64 1 = 1 := by decide
theorem fc44_3 : IntKind.wrap .i64 10 = 10 := by decide
theorem fc44_4 : IntKind.wrap .i64 11 = 11 := by decide
theorem fc44_5 : IntKind.wrap .i64 110 = 110 := by decide
theorem fc44_6 : IntKind.wrap .i64 12 = 12 := by decide
theorem fc44_7 : IntKind.wrap .i64 13 = 13 := by decide
theorem fc44_8 : IntKind.wrap .i64 14 = 14 := by decide
theorem fc44_9 : IntKind.wrap .i64 15 = 15 := by decide
theorem fc44_10 : IntKind.wrap .i64 156 = 156 := by decide
theorem fc44_11 : IntKind.wrap .i64 16 = 16 := by decide
theorem fc44_12 : IntKind.wrap .i64 17 = 17 := by decide
theorem fc44_13 : IntKind.wrap .i64 2 = 2 := by decide
theorem fc44_14 : IntKind.wrap .i64 20 = 20 := by decide
theorem fc44_15 : IntKind.wrap .i64 210 = 210 := by decide
theorem fc44_16 : IntKind.wrap .i64 272 = 272 := by decide
theorem fc44_17 : IntKind.wrap .i64 3 = 3 := by decide
theorem fc44_18 : IntKind.wrap .i64 4 = 4 := by decide
theorem fc44_19 : IntKind.wrap .i64 42 = 42 := by decide
theorem fc44_20 : IntKind.wrap .i64 5 = 5 := by decide
theorem fc44_21 : IntKind.wrap .i64 6 = 6 := by decide
theorem fc44_22 : IntKind.wrap .i64 7 = 7 := by decide
theorem fc44_23 : IntKind.wrap .i64 72 = 72 := by decide
theorem fc44_24 : IntKind.wrap .i64 8 = 8 := by decide
theorem fc44_25 : IntKind.wrap .i64 9 = 9 := by decide
theorem s44 : ∀ vs r, g_impl_isLength vs = some r → Says Try.prog 44 vs r := by
  intro vs r h
  unfold g_impl_isLength at h
  split at h
  · rename_i y0
    cases h
    refine spec_of (tab := tabOf [(51, g_impl_IsFinite)]) (cp := cp44) (ic := ic44) (rvl := [(.t 2)]) hm (tabOk_cons s51 tabOk_nil) Try.func44 rfl rfl rfl (by kernel_rfl) rfl (Nat.le_of_ble_eq_true rfl) ?_
    show eA _ _ _ _
    unfold ic44
    simp only [
        eA_seq, eA_reg, eA_ret, eA_skip, eA_cond, eA_block, eA_exit, eCc_true, eCc_false, Kq_normal, Kq_ret, Kq_exit, Kb_normal, Kb_exit, Kb_ret, Kreg_eq, eI_nil, bindSt_some,
              bindSt_none, bindSt_ite, eR_eq, eGI_tt, eGI_ff, eGI_tf, eGI_ft, eop, vop, ev_t, ev_c, ev_f, Option.map, put_some, put_none, set_eq, setH_eq, get_eq, hp_eq, keep_cons,
              keep_nil, lk_cons, lk_nil, startSt, envOf, reduceIte, Nat.reduceEqDiff, Nat.reduceAdd, Nat.zero_add, Nat.add_zero, Nat.reduceMul, Nat.reduceLT, Nat.reduceLeDiff, bop,
              uop, intop, fltop, convop, true_or, or_true, Bool.false_eq_true, ret_ok, ret_normal, outV, rvV, rvs, ex_some, pureV, pureX, pureX.pure1', pure1, Bool.true_and,
              Bool.false_and, Bool.and_true, Bool.and_false, Option.isNone_none, AV.cells, AV.one, storable, laid, refless, refless1, List.all_cons, List.all_nil, List.length_cons,
              List.length_nil, List.getElem?_cons_zero, List.getElem?_cons_succ, List.set_cons_zero, List.set_cons_succ, List.set_nil, List.map_cons, List.map_nil, vload, loadC,
              storeC, vnil, vfaddr, vextract, callTo, List.mapM_cons, List.mapM_nil, Option.pure_def, Option.bind_eq_bind, Option.bind_some, tabOf_cons, flatT, flatE, flatC,
              and_self, and_true, true_and, implies_true, forall_const, not_true_eq_false, not_false_eq_true, false_implies, List.take_succ_cons, List.drop_succ_cons,
              List.take_zero, List.drop_zero, Bool.not_true, Bool.not_false, beq_self_eq_true, decide_true, decide_false, eq_self, Int.reduceEq, Int.reduceLE, Int.reduceLT,
              Bool.not_not, Bool.true_or, Bool.or_true, Bool.false_or, Bool.or_false, if_true, if_false, List.getElem?_nil, Kl_normal, Kl_exit, Kl_ret, fc44_0, fc44_1, fc44_2,
              fc44_3, fc44_4, fc44_5, fc44_6, fc44_7, fc44_8, fc44_9, fc44_10, fc44_11, fc44_12, fc44_13, fc44_14, fc44_15, fc44_16, fc44_17, fc44_18, fc44_19, fc44_20, fc44_21,
              fc44_22, fc44_23, fc44_24, fc44_25, cast_lit, toNat_lit, Int.reduceAdd, Int.reduceSub, Int.reduceMul, Int.reduceNeg, Int.reducePow, Nat.reducePow, Int.reduceToNat,
              Nat.reduceSub, Nat.mul_one, Int.toNat_zero, prod_eta, List.nil_append, List.cons_append, List.append_nil, Int.le_refl, Nat.le_refl, true_implies, take_all, vconv, vmm,
              vidxA, viaddrA, iaddr_sl, iaddr_lsl, getE, vfield, vlen, fillC, fillE, List.replicate, elemsOf, List.length_map, f2iK_eq, bits_i64, bits_i32, bits_u64, bits_u32,
              bits_u8, e_mov, g_mov, e_pick, g_pick, e_bin, g_bin, e_call, g_call, g_impl_IsFinite, dF32_map, dF64_map, dI64_map, dU8_map, dBool_map, dStr_map, decL, dF32, dF64,
              dI64, dU8, dBool, dStr, ↓b_pick, ePk_true, ePk_false]
    repeat' (first
      | ((first | (refine eGI_of (fun h => ?_) (fun h => ?_)) | (refine eCc_of (fun h => ?_) (fun h => ?_)) | (refine ePk_of (fun h => ?_) (fun h => ?_))) <;> (try simp only [Bool.not_eq_true', Bool.not_eq_false'] at h) <;> simp only [h,
        eA_seq, eA_reg, eA_ret, eA_skip, eA_cond, eA_block, eA_exit, eCc_true, eCc_false, Kq_normal, Kq_ret, Kq_exit, Kb_normal, Kb_exit, Kb_ret, Kreg_eq, eI_nil, bindSt_some,
              bindSt_none, bindSt_ite, eR_eq, eGI_tt, eGI_ff, eGI_tf, eGI_ft, eop, vop, ev_t, ev_c, ev_f, Option.map, put_some, put_none, set_eq, setH_eq, get_eq, hp_eq, keep_cons,
              keep_nil, lk_cons, lk_nil, startSt, envOf, reduceIte, Nat.reduceEqDiff, Nat.reduceAdd, Nat.zero_add, Nat.add_zero, Nat.reduceMul, Nat.reduceLT, Nat.reduceLeDiff, bop,
              uop, intop, fltop, convop, true_or, or_true, Bool.false_eq_true, ret_ok, ret_normal, outV, rvV, rvs, ex_some, pureV, pureX, pureX.pure1', pure1, Bool.true_and,
              Bool.false_and, Bool.and_true, Bool.and_false, Option.isNone_none, AV.cells, AV.one, storable, laid, refless, refless1, List.all_cons, List.all_nil, List.length_cons,
              List.length_nil, List.getElem?_cons_zero, List.getElem?_cons_succ, List.set_cons_zero, List.set_cons_succ, List.set_nil, List.map_cons, List.map_nil, vload, loadC,
              storeC, vnil, vfaddr, vextract, callTo, List.mapM_cons, List.mapM_nil, Option.pure_def, Option.bind_eq_bind, Option.bind_some, tabOf_cons, flatT, flatE, flatC,
              and_self, and_true, true_and, implies_true, forall_const, not_true_eq_false, not_false_eq_true, false_implies, List.take_succ_cons, List.drop_succ_cons,
              List.take_zero, List.drop_zero, Bool.not_true, Bool.not_false, beq_self_eq_true, decide_true, decide_false, eq_self, Int.reduceEq, Int.reduceLE, Int.reduceLT,
              Bool.not_not, Bool.true_or, Bool.or_true, Bool.false_or, Bool.or_false, if_true, if_false, List.getElem?_nil, Kl_normal, Kl_exit, Kl_ret, fc44_0, fc44_1, fc44_2,
              fc44_3, fc44_4, fc44_5, fc44_6, fc44_7, fc44_8, fc44_9, fc44_10, fc44_11, fc44_12, fc44_13, fc44_14, fc44_15, fc44_16, fc44_17, fc44_18, fc44_19, fc44_20, fc44_21,
              fc44_22, fc44_23, fc44_24, fc44_25, cast_lit, toNat_lit, Int.reduceAdd, Int.reduceSub, Int.reduceMul, Int.reduceNeg, Int.reducePow, Nat.reducePow, Int.reduceToNat,
              Nat.reduceSub, Nat.mul_one, Int.toNat_zero, prod_eta, List.nil_append, List.cons_append, List.append_nil, Int.le_refl, Nat.le_refl, true_implies, take_all, vconv, vmm,
              vidxA, viaddrA, iaddr_sl, iaddr_lsl, getE, vfield, vlen, fillC, fillE, List.replicate, elemsOf, List.length_map, f2iK_eq, bits_i64, bits_i32, bits_u64, bits_u32,
              bits_u8, e_mov, g_mov, e_pick, g_pick, e_bin, g_bin, e_call, g_call, g_impl_IsFinite, dF32_map, dF64_map, dI64_map, dU8_map, dBool_map, dStr_map, decL, dF32, dF64,
              dI64, dU8, dBool, dStr, ↓b_pick, ePk_true, ePk_false]))
    all_goals (try simp only [*, m_impl_isLength, Bool.and_true, Bool.true_and, Bool.and_false, Bool.false_and, Bool.or_true, Bool.true_or, Bool.or_false, Bool.false_or, Bool.not_true, Bool.not_false, Bool.false_eq_true, if_true, if_false, reduceIte, decide_true, decide_false])
    all_goals (try (simp_all; done))
  · cases h
def m_impl_NoTurn  : (Nat × Nat × Nat × Nat) := (1065353216, 0, 0, 0)
def g_impl_NoTurn : List AV → Option AV
  | [] => some (AV.agg [(.flt .f32 (m_impl_NoTurn).1), (.flt .f32 (m_impl_NoTurn).2.1), (.flt .f32 (m_impl_NoTurn).2.2.1), (.flt .f32
      (m_impl_NoTurn).2.2.2)])
  | _ => none
def ic64 : ICode := (.seq (.reg [⟨(some 0), none, (.alloc (.agg [(.flt .f32 0), (.flt .f32 0), (.flt .f32 0), (.flt .f32 0)]))⟩] [0]) (.seq (.reg [⟨(some 1), none, (.build [(.flt
      .f32 0), (.flt .f32 0), (.flt .f32 0), (.flt .f32 0)] [(0, 1, (.c (.flt .f32 1065353216)))])⟩, ⟨none, none, (.store 4 (.t 0) (.t 1))⟩] [0]) .ret))
def cp64 : CP := { n := 2, kp := [[0], [0]] }
theorem fc64_0 : IntKind.wrap .i64 (-1) = (-1) := by decide
theorem fc64_1 : IntKind.wrap .i64 0 = 0 := by decide
theorem fc64_2 : IntKind.wrap .i64 1 = 1 := by decide
theorem fc64_3 : IntKind.wrap .i64 10 = 10 := by decide
theorem fc64_4 : IntKind.wrap .i64 11 = 11 := by decide
theorem fc64_5 : IntKind.wrap .i64 110 = 110 := by decide
theorem fc64_6 : IntKind.wrap .i64 12 = 12 := by decide
theorem fc64_7 : IntKind.wrap .i64 13 = 13 := by decide
theorem fc64_8 : IntKind.wrap .i64 14 = 14 := by decide
theorem fc64_9 : IntKind.wrap .i64 15 = 15 := by decide
theorem fc64_10 : IntKind.wrap .i64 156 = 156 := by decide
theorem fc64_11 : IntKind.wrap .i64 16 = 16 := by decide
theorem fc64_12 : IntKind.wrap .i64 17 = 17 := by decide
theorem fc64_13 : IntKind.wrap .i64 2 = 2 := by decide
theorem fc64_14 : IntKind.wrap .i64 20 = 20 := by decide
theorem fc64_15 : IntKind.wrap .i64 210 = 210 := by decide
theorem fc64_16 : IntKind.wrap .i64 272 = 272 := by decide
theorem fc64_17 : IntKind.wrap .i64 3 = 3 := by decide
theorem fc64_18 : IntKind.wrap .i64 4 = 4 := by decide
theorem fc64_19 : IntKind.wrap .i64 42 = 42 := by decide
theorem fc64_20 : IntKind.wrap .i64 5 = 5 := by decide
theorem fc64_21 : IntKind.wrap .i64 6 = 6 := by decide
theorem fc64_22 : IntKind.wrap .i64 7 = 7 := by decide
theorem fc64_23 : IntKind.wrap .i64 72 = 72 := by decide
theorem fc64_24 : IntKind.wrap .i64 8 = 8 := by decide
theorem fc64_25 : IntKind.wrap .i64 9 = 9 := by decide
theorem s64 : ∀ vs r, g_impl_NoTurn vs = some r → Says Try.prog 64 vs r := by
  intro vs r h
  unfold g_impl_NoTurn at h
  split at h
  · cases h
    refine spec_of (tab := tabOf []) (cp := cp64) (ic := ic64) (rvl := [(.c 0 (some 4))]) hm tabOk_nil Try.func64 rfl rfl rfl (by kernel_rfl) rfl (Nat.le_of_ble_eq_true rfl) ?_
    show eA _ _ _ _
    unfold ic64
    simp only [
        eA_seq, eA_reg, eA_ret, eA_skip, eA_cond, eA_block, eA_exit, eCc_true, eCc_false, Kq_normal, Kq_ret, Kq_exit, Kb_normal, Kb_exit, Kb_ret, Kreg_eq, eI_nil, bindSt_some,
              bindSt_none, bindSt_ite, eR_eq, eGI_tt, eGI_ff, eGI_tf, eGI_ft, eop, vop, ev_t, ev_c, ev_f, Option.map, put_some, put_none, set_eq, setH_eq, get_eq, hp_eq, keep_cons,
              keep_nil, lk_cons, lk_nil, startSt, envOf, reduceIte, Nat.reduceEqDiff, Nat.reduceAdd, Nat.zero_add, Nat.add_zero, Nat.reduceMul, Nat.reduceLT, Nat.reduceLeDiff, bop,
              uop, intop, fltop, convop, true_or, or_true, Bool.false_eq_true, ret_ok, ret_normal, outV, rvV, rvs, ex_some, pureV, pureX, pureX.pure1', pure1, Bool.true_and,
              Bool.false_and, Bool.and_true, Bool.and_false, Option.isNone_none, AV.cells, AV.one, storable, laid, refless, refless1, List.all_cons, List.all_nil, List.length_cons,
              List.length_nil, List.getElem?_cons_zero, List.getElem?_cons_succ, List.set_cons_zero, List.set_cons_succ, List.set_nil, List.map_cons, List.map_nil, vload, loadC,
              storeC, vnil, vfaddr, vextract, callTo, List.mapM_cons, List.mapM_nil, Option.pure_def, Option.bind_eq_bind, Option.bind_some, tabOf_cons, flatT, flatE, flatC,
              and_self, and_true, true_and, implies_true, forall_const, not_true_eq_false, not_false_eq_true, false_implies, List.take_succ_cons, List.drop_succ_cons,
              List.take_zero, List.drop_zero, Bool.not_true, Bool.not_false, beq_self_eq_true, decide_true, decide_false, eq_self, Int.reduceEq, Int.reduceLE, Int.reduceLT,
              Bool.not_not, Bool.true_or, Bool.or_true, Bool.false_or, Bool.or_false, if_true, if_false, List.getElem?_nil, Kl_normal, Kl_exit, Kl_ret, fc64_0, fc64_1, fc64_2,
              fc64_3, fc64_4, fc64_5, fc64_6, fc64_7, fc64_8, fc64_9, fc64_10, fc64_11, fc64_12, fc64_13, fc64_14, fc64_15, fc64_16, fc64_17, fc64_18, fc64_19, fc64_20, fc64_21,
              fc64_22, fc64_23, fc64_24, fc64_25, cast_lit, toNat_lit, Int.reduceAdd, Int.reduceSub, Int.reduceMul, Int.reduceNeg, Int.reducePow, Nat.reducePow, Int.reduceToNat,
              Nat.reduceSub, Nat.mul_one, Int.toNat_zero, prod_eta, List.nil_append, List.cons_append, List.append_nil, Int.le_refl, Nat.le_refl, true_implies, take_all, vconv, vmm,
              vidxA, viaddrA, iaddr_sl, iaddr_lsl, getE, vfield, vlen, fillC, fillE, List.replicate, elemsOf, List.length_map, f2iK_eq, bits_i64, bits_i32, bits_u64, bits_u32,
              bits_u8, e_alloc, g_alloc, e_build, g_build, e_store, g_store, dF32_map, dF64_map, dI64_map, dU8_map, dBool_map, dStr_map, decL, dF32, dF64, dI64, dU8, dBool, dStr]
    repeat' (first
      | ((first | (refine eGI_of (fun h => ?_) (fun h => ?_)) | (refine eCc_of (fun h => ?_) (fun h => ?_))) <;> (try simp only [Bool.not_eq_true', Bool.not_eq_false'] at h) <;> simp only [h,
        eA_seq, eA_reg, eA_ret, eA_skip, eA_cond, eA_block, eA_exit, eCc_true, eCc_false, Kq_normal, Kq_ret, Kq_exit, Kb_normal, Kb_exit, Kb_ret, Kreg_eq, eI_nil, bindSt_some,
              bindSt_none, bindSt_ite, eR_eq, eGI_tt, eGI_ff, eGI_tf, eGI_ft, eop, vop, ev_t, ev_c, ev_f, Option.map, put_some, put_none, set_eq, setH_eq, get_eq, hp_eq, keep_cons,
              keep_nil, lk_cons, lk_nil, startSt, envOf, reduceIte, Nat.reduceEqDiff, Nat.reduceAdd, Nat.zero_add, Nat.add_zero, Nat.reduceMul, Nat.reduceLT, Nat.reduceLeDiff, bop,
              uop, intop, fltop, convop, true_or, or_true, Bool.false_eq_true, ret_ok, ret_normal, outV, rvV, rvs, ex_some, pureV, pureX, pureX.pure1', pure1, Bool.true_and,
              Bool.false_and, Bool.and_true, Bool.and_false, Option.isNone_none, AV.cells, AV.one, storable, laid, refless, refless1, List.all_cons, List.all_nil, List.length_cons,
              List.length_nil, List.getElem?_cons_zero, List.getElem?_cons_succ, List.set_cons_zero, List.set_cons_succ, List.set_nil, List.map_cons, List.map_nil, vload, loadC,
              storeC, vnil, vfaddr, vextract, callTo, List.mapM_cons, List.mapM_nil, Option.pure_def, Option.bind_eq_bind, Option.bind_some, tabOf_cons, flatT, flatE, flatC,
              and_self, and_true, true_and, implies_true, forall_const, not_true_eq_false, not_false_eq_true, false_implies, List.take_succ_cons, List.drop_succ_cons,
              List.take_zero, List.drop_zero, Bool.not_true, Bool.not_false, beq_self_eq_true, decide_true, decide_false, eq_self, Int.reduceEq, Int.reduceLE, Int.reduceLT,
              Bool.not_not, Bool.true_or, Bool.or_true, Bool.false_or, Bool.or_false, if_true, if_false, List.getElem?_nil, Kl_normal, Kl_exit, Kl_ret, fc64_0, fc64_1, fc64_2,
              fc64_3, fc64_4, fc64_5, fc64_6, fc64_7, fc64_8, fc64_9, fc64_10, fc64_11, fc64_12, fc64_13, fc64_14, fc64_15, fc64_16, fc64_17, fc64_18, fc64_19, fc64_20, fc64_21,
              fc64_22, fc64_23, fc64_24, fc64_25, cast_lit, toNat_lit, Int.reduceAdd, Int.reduceSub, Int.reduceMul, Int.reduceNeg, Int.reducePow, Nat.reducePow, Int.reduceToNat,
              Nat.reduceSub, Nat.mul_one, Int.toNat_zero, prod_eta, List.nil_append, List.cons_append, List.append_nil, Int.le_refl, Nat.le_refl, true_implies, take_all, vconv, vmm,
              vidxA, viaddrA, iaddr_sl, iaddr_lsl, getE, vfield, vlen, fillC, fillE, List.replicate, elemsOf, List.length_map, f2iK_eq, bits_i64, bits_i32, bits_u64, bits_u32,
              bits_u8, e_alloc, g_alloc, e_build, g_build, e_store, g_store, dF32_map, dF64_map, dI64_map, dU8_map, dBool_map, dStr_map, decL, dF32, dF64, dI64, dU8, dBool, dStr]))
    all_goals (try simp only [*, m_impl_NoTurn, Bool.and_true, Bool.true_and, Bool.and_false, Bool.false_and, Bool.or_true, Bool.true_or, Bool.or_false, Bool.false_or, Bool.not_true, Bool.not_false, Bool.false_eq_true, if_true, if_false, reduceIte, decide_true, decide_false])
    all_goals (try (simp_all; done))
  · cases h
def m_impl_MendTurn (x0 : (Nat × Nat × Nat × Nat)) : (Nat × Nat × Nat × Nat) := (if (m_impl_isLength (m_impl_LengthOfTurn x0)) = true then ((fdiv .f32 x0.1 (m_impl_LengthOfTurn
      x0)), (fdiv .f32 x0.2.1 (m_impl_LengthOfTurn x0)), (fdiv .f32 x0.2.2.1 (m_impl_LengthOfTurn x0)), (fdiv .f32 x0.2.2.2 (m_impl_LengthOfTurn x0))) else (m_impl_NoTurn))
def p_impl_MendTurn (x0 : (Nat × Nat × Nat × Nat)) : Bool := (p_impl_LengthOfTurn x0)
def g_impl_MendTurn : List AV → Option AV
  | [.agg [.flt .f32 y0, .flt .f32 y1, .flt .f32 y2, .flt .f32 y3]] => if p_impl_MendTurn (y0, y1, y2, y3) = true then some (AV.agg [(.flt
      .f32 (m_impl_MendTurn (y0, y1, y2, y3)).1), (.flt .f32 (m_impl_MendTurn (y0, y1, y2, y3)).2.1), (.flt .f32 (m_impl_MendTurn (y0, y1, y2, y3)).2.2.1), (.flt .f32
      (m_impl_MendTurn (y0, y1, y2, y3)).2.2.2)]) else none
  | _ => none
def ic90 : ICode := (.seq (.reg [⟨(some 1), none, (.box 4 (.t 0))⟩, ⟨(some 2), none, (.alloc (.agg [(.flt .f32 0), (.flt .f32 0), (.flt .f32 0), (.flt .f32 0)]))⟩] [1, 2]) (.seq
      (.reg [⟨(some 4), none, (.load (some 4) (.t 1))⟩, ⟨(some 5), none, (.call (.fn 102) [(.t 4)] [])⟩, ⟨(some 3), none, (.mov (.t 5))⟩] [1, 2, 3]) (.seq (.seq (.reg [⟨(some 6),
      none, (.mov (.t 3))⟩, ⟨(some 7), none, (.call (.fn 44) [(.t 6)] [])⟩, ⟨(some 8), none, (.un .not (.t 7))⟩] [1, 2, 3, 8]) (.cond (.t 8) (.seq (.reg [⟨(some 9), none, (.call
      (.fn 64) [] [])⟩, ⟨none, none, (.store 4 (.t 2) (.t 9))⟩] [2]) .ret) .skip)) (.seq (.reg [⟨(some 10), none, (.faddr 0 (.t 1))⟩, ⟨(some 11), none, (.load none (.t 10))⟩, ⟨(some
      12), none, (.mov (.t 3))⟩, ⟨(some 13), none, (.bin .quo false (.t 11) (.t 12))⟩, ⟨(some 14), none, (.faddr 1 (.t 1))⟩, ⟨(some 15), none, (.load none (.t 14))⟩, ⟨(some 16),
      none, (.mov (.t 3))⟩, ⟨(some 17), none, (.bin .quo false (.t 15) (.t 16))⟩, ⟨(some 18), none, (.faddr 2 (.t 1))⟩, ⟨(some 19), none, (.load none (.t 18))⟩, ⟨(some 20), none,
      (.mov (.t 3))⟩, ⟨(some 21), none, (.bin .quo false (.t 19) (.t 20))⟩, ⟨(some 22), none, (.faddr 3 (.t 1))⟩, ⟨(some 23), none, (.load none (.t 22))⟩, ⟨(some 24), none, (.mov
      (.t 3))⟩, ⟨(some 25), none, (.bin .quo false (.t 23) (.t 24))⟩, ⟨(some 26), none, (.build [(.flt .f32 0), (.flt .f32 0), (.flt .f32 0), (.flt .f32 0)] [(0, 1, (.t 13)), (1, 1,
      (.t 17)), (2, 1, (.t 21)), (3, 1, (.t 25))])⟩, ⟨none, none, (.store 4 (.t 2) (.t 26))⟩] [2]) .ret))))
def cp90 : CP := { n := 27, kp := [[1, 2], [1, 2, 3], [1, 2, 3, 8], [2], [2]] }
theorem fc90_0 : IntKind.wrap .i64 (-1) = (-1) := by decide
theorem fc90_1 : IntKind.wrap .i64 0 = 0 := by decide
theorem fc90_2 : IntKind.wrap .i64 1 = 1 := by decide
theorem fc90_3 : IntKind.wrap .i64 10 = 10 := by decide
theorem fc90_4 : IntKind.wrap .i64 11 = 11 := by decide
theorem fc90_5 : IntKind.wrap .i64 110 = 110 := by decide
theorem fc90_6 : IntKind.wrap .i64 12 = 12 := by decide
theorem fc90_7 : IntKind.wrap .i64 13 = 13 := by decide
theorem fc90_8 : IntKind.wrap .i64 14 = 14 := by decide
theorem fc90_9 : IntKind.wrap .i64 15 = 15 := by decide
theorem fc90_10 : IntKind.wrap .i64 156 = 156 := by decide
theorem fc90_11 : IntKind.wrap .i64 16 = 16 := by decide
theorem fc90_12 : IntKind.wrap .i64 17 = 17 := by decide
theorem fc90_13 : IntKind.wrap .i64 2 = 2 := by decide
theorem fc90_14 : IntKind.wrap .i64 20 = 20 := by decide
theorem fc90_15 : IntKind.wrap .i64 210 = 210 := by decide
theorem fc90_16 : IntKind.wrap .i64 272 = 272 := by decide
theorem fc90_17 : IntKind.wrap .i64 3 = 3 := by decide
theorem fc90_18 : IntKind.wrap .i64 4 = 4 := by decide
theorem fc90_19 : IntKind.wrap .i64 42 = 42 := by decide
theorem fc90_20 : IntKind.wrap .i64 5 = 5 := by decide
theorem fc90_21 : IntKind.wrap .i64 6 = 6 := by decide
theorem fc90_22 : IntKind.wrap .i64 7 = 7 := by decide
theorem fc90_23 : IntKind.wrap .i64 72 = 72 := by decide
theorem fc90_24 : IntKind.wrap .i64 8 = 8 := by decide
theorem fc90_25 : IntKind.wrap .i64 9 = 9 := by decide
theorem s90 : ∀ vs r, g_impl_MendTurn vs = some r → Says Try.prog 90 vs r := by
  intro vs r h
  unfold g_impl_MendTurn at h
  split at h
  · rename_i y0 y1 y2 y3
    split at h
    · rename_i hp
      cases h
      refine spec_of (tab := tabOf [(44, g_impl_isLength), (64, g_impl_NoTurn), (102, g_impl_LengthOfTurn)]) (cp := cp90) (ic := ic90) (rvl := [(.c 2 (some 4))]) hm (tabOk_cons s44 (tabOk_cons s64 (tabOk_cons s102 tabOk_nil))) Try.func90 rfl rfl rfl (by kernel_rfl) rfl (Nat.le_of_ble_eq_true rfl) ?_
      show eA _ _ _ _
      unfold ic90
      simp only [p_impl_MendTurn, Bool.and_eq_true, Bool.or_eq_true, decide_eq_true_eq, Bool.not_eq_true', decide_eq_false_iff_not] at hp
      simp only [
          hp, eA_seq, eA_reg, eA_ret, eA_skip, eA_cond, eA_block, eA_exit, eCc_true, eCc_false, Kq_normal, Kq_ret, Kq_exit, Kb_normal, Kb_exit, Kb_ret, Kreg_eq, eI_nil, bindSt_some,
                bindSt_none, bindSt_ite, eR_eq, eGI_tt, eGI_ff, eGI_tf, eGI_ft, eop, vop, ev_t, ev_c, ev_f, Option.map, put_some, put_none, set_eq, setH_eq, get_eq, hp_eq,
                keep_cons, keep_nil, lk_cons, lk_nil, startSt, envOf, reduceIte, Nat.reduceEqDiff, Nat.reduceAdd, Nat.zero_add, Nat.add_zero, Nat.reduceMul, Nat.reduceLT,
                Nat.reduceLeDiff, bop, uop, intop, fltop, convop, true_or, or_true, Bool.false_eq_true, ret_ok, ret_normal, outV, rvV, rvs, ex_some, pureV, pureX, pureX.pure1',
                pure1, Bool.true_and, Bool.false_and, Bool.and_true, Bool.and_false, Option.isNone_none, AV.cells, AV.one, storable, laid, refless, refless1, List.all_cons,
                List.all_nil, List.length_cons, List.length_nil, List.getElem?_cons_zero, List.getElem?_cons_succ, List.set_cons_zero, List.set_cons_succ, List.set_nil,
                List.map_cons, List.map_nil, vload, loadC, storeC, vnil, vfaddr, vextract, callTo, List.mapM_cons, List.mapM_nil, Option.pure_def, Option.bind_eq_bind,
                Option.bind_some, tabOf_cons, flatT, flatE, flatC, and_self, and_true, true_and, implies_true, forall_const, not_true_eq_false, not_false_eq_true, false_implies,
                List.take_succ_cons, List.drop_succ_cons, List.take_zero, List.drop_zero, Bool.not_true, Bool.not_false, beq_self_eq_true, decide_true, decide_false, eq_self,
                Int.reduceEq, Int.reduceLE, Int.reduceLT, Bool.not_not, Bool.true_or, Bool.or_true, Bool.false_or, Bool.or_false, if_true, if_false, List.getElem?_nil, Kl_normal,
                Kl_exit, Kl_ret, fc90_0, fc90_1, fc90_2, fc90_3, fc90_4, fc90_5, fc90_6, fc90_7, fc90_8, fc90_9, fc90_10, fc90_11, fc90_12, fc90_13, fc90_14, fc90_15, fc90_16,
                fc90_17, fc90_18, fc90_19, fc90_20, fc90_21, fc90_22, fc90_23, fc90_24, fc90_25, cast_lit, toNat_lit, Int.reduceAdd, Int.reduceSub, Int.reduceMul, Int.reduceNeg,
                Int.reducePow, Nat.reducePow, Int.reduceToNat, Nat.reduceSub, Nat.mul_one, Int.toNat_zero, prod_eta, List.nil_append, List.cons_append, List.append_nil, Int.le_refl,
                Nat.le_refl, true_implies, take_all, vconv, vmm, vidxA, viaddrA, iaddr_sl, iaddr_lsl, getE, vfield, vlen, fillC, fillE, List.replicate, elemsOf, List.length_map,
                f2iK_eq, bits_i64, bits_i32, bits_u64, bits_u32, bits_u8, e_mov, g_mov, e_alloc, g_alloc, e_box, g_box, e_build, g_build, e_load, g_load, e_store, g_store, e_bin,
                g_bin, e_un, g_un, e_faddr, g_faddr, e_call, g_call, g_impl_isLength, g_impl_NoTurn, g_impl_LengthOfTurn, dF32_map, dF64_map, dI64_map, dU8_map, dBool_map, dStr_map,
                decL, dF32, dF64, dI64, dU8, dBool, dStr]
      repeat' (first
        | ((first | (refine eGI_of (fun h => ?_) (fun h => ?_)) | (refine eCc_of (fun h => ?_) (fun h => ?_))) <;> (try simp only [Bool.not_eq_true', Bool.not_eq_false'] at h) <;> (try simp only [h, reduceCtorEq, Bool.not_eq_true', decide_eq_false_iff_not, Bool.not_true, Bool.not_false, Bool.false_or, Bool.true_or, Bool.true_and, Bool.false_and, Bool.and_eq_true, Bool.or_eq_true, if_true, if_false, reduceIte, Bool.false_eq_true, and_true, true_and, false_or, or_false, decide_eq_true_eq, not_false_eq_true, not_true_eq_false] at hp) <;> (try (have h2 := h; simp only [decide_eq_true_eq, decide_eq_false_iff_not] at h2; (first | (replace h2 := eq_false h2) | (replace h2 := eq_true h2)); simp only [h2, if_true, if_false, false_or, true_or, or_true, or_false, and_true, true_and, not_false_eq_true, not_true_eq_false] at hp)) <;> simp only [h,
          hp, eA_seq, eA_reg, eA_ret, eA_skip, eA_cond, eA_block, eA_exit, eCc_true, eCc_false, Kq_normal, Kq_ret, Kq_exit, Kb_normal, Kb_exit, Kb_ret, Kreg_eq, eI_nil, bindSt_some,
                bindSt_none, bindSt_ite, eR_eq, eGI_tt, eGI_ff, eGI_tf, eGI_ft, eop, vop, ev_t, ev_c, ev_f, Option.map, put_some, put_none, set_eq, setH_eq, get_eq, hp_eq,
                keep_cons, keep_nil, lk_cons, lk_nil, startSt, envOf, reduceIte, Nat.reduceEqDiff, Nat.reduceAdd, Nat.zero_add, Nat.add_zero, Nat.reduceMul, Nat.reduceLT,
                Nat.reduceLeDiff, bop, uop, intop, fltop, convop, true_or, or_true, Bool.false_eq_true, ret_ok, ret_normal, outV, rvV, rvs, ex_some, pureV, pureX, pureX.pure1',
                pure1, Bool.true_and, Bool.false_and, Bool.and_true, Bool.and_false, Option.isNone_none, AV.cells, AV.one, storable, laid, refless, refless1, List.all_cons,
                List.all_nil, List.length_cons, List.length_nil, List.getElem?_cons_zero, List.getElem?_cons_succ, List.set_cons_zero, List.set_cons_succ, List.set_nil,
                List.map_cons, List.map_nil, vload, loadC, storeC, vnil, vfaddr, vextract, callTo, List.mapM_cons, List.mapM_nil, Option.pure_def, Option.bind_eq_bind,
                Option.bind_some, tabOf_cons, flatT, flatE, flatC, and_self, and_true, true_and, implies_true, forall_const, not_true_eq_false, not_false_eq_true, false_implies,
                List.take_succ_cons, List.drop_succ_cons, List.take_zero, List.drop_zero, Bool.not_true, Bool.not_false, beq_self_eq_true, decide_true, decide_false, eq_self,
                Int.reduceEq, Int.reduceLE, Int.reduceLT, Bool.not_not, Bool.true_or, Bool.or_true, Bool.false_or, Bool.or_false, if_true, if_false, List.getElem?_nil, Kl_normal,
                Kl_exit, Kl_ret, fc90_0, fc90_1, fc90_2, fc90_3, fc90_4, fc90_5, fc90_6, fc90_7, fc90_8, fc90_9, fc90_10, fc90_11, fc90_12, fc90_13, fc90_14, fc90_15, fc90_16,
                fc90_17, fc90_18, fc90_19, fc90_20, fc90_21, fc90_22, fc90_23, fc90_24, fc90_25, cast_lit, toNat_lit, Int.reduceAdd, Int.reduceSub, Int.reduceMul, Int.reduceNeg,
                Int.reducePow, Nat.reducePow, Int.reduceToNat, Nat.reduceSub, Nat.mul_one, Int.toNat_zero, prod_eta, List.nil_append, List.cons_append, List.append_nil, Int.le_refl,
                Nat.le_refl, true_implies, take_all, vconv, vmm, vidxA, viaddrA, iaddr_sl, iaddr_lsl, getE, vfield, vlen, fillC, fillE, List.replicate, elemsOf, List.length_map,
                f2iK_eq, bits_i64, bits_i32, bits_u64, bits_u32, bits_u8, e_mov, g_mov, e_alloc, g_alloc, e_box, g_box, e_build, g_build, e_load, g_load, e_store, g_store, e_bin,
                g_bin, e_un, g_un, e_faddr, g_faddr, e_call, g_call, g_impl_isLength, g_impl_NoTurn, g_impl_LengthOfTurn, dF32_map, dF64_map, dI64_map, dU8_map, dBool_map, dStr_map,
                decL, dF32, dF64, dI64, dU8, dBool, dStr]))
      all_goals (try simp only [*, m_impl_MendTurn, Bool.and_true, Bool.true_and, Bool.and_false, Bool.false_and, Bool.or_true, Bool.true_or, Bool.or_false, Bool.false_or, Bool.not_true, Bool.not_false, Bool.false_eq_true, if_true, if_false, reduceIte, decide_true, decide_false])
      all_goals (try (simp_all; done))
    · cases h
  · cases h
def v_impl_TurnBetween_0 (x0 : (Nat × Nat × Nat)) (x1 : (Nat × Nat × Nat)) : Bool := (flt .f32 (fdiv .f32 (fmul .f32 (m_impl_LongOf x0) (m_impl_LongOf x1)) 1149239296) (fadd .f32
      (fmul .f32 (m_impl_LongOf x0) (m_impl_LongOf x1)) (m_impl_InnerOf x0 x1)))
def m_impl_TurnBetween (x0 : (Nat × Nat × Nat)) (x1 : (Nat × Nat × Nat)) : (Nat × Nat × Nat × Nat) := (if (v_impl_TurnBetween_0 x0 x1) = true then (m_impl_MendTurn (m_impl_turnOf
      (fadd .f32 (fmul .f32 (m_impl_LongOf x0) (m_impl_LongOf x1)) (m_impl_InnerOf x0 x1)) (m_impl_CrossOf x0 x1))) else (m_impl_MendTurn (m_impl_turnOf 0 (if (fle .f32
      (m_impl_LongOf (m_impl_CrossOf x0 (1065353216, 0, 0))) (fdiv .f32 (m_impl_LongOf x0) 1149239296)) = true then (m_impl_CrossOf x0 (0, 1065353216, 0)) else (m_impl_CrossOf x0
      (1065353216, 0, 0))))))
def p_impl_TurnBetween (x0 : (Nat × Nat × Nat)) (x1 : (Nat × Nat × Nat)) : Bool := ((p_impl_LongOf x0) && ((p_impl_LongOf x1) && (if (v_impl_TurnBetween_0 x0 x1) = true then
      (p_impl_MendTurn (m_impl_turnOf (fadd .f32 (fmul .f32 (m_impl_LongOf x0) (m_impl_LongOf x1)) (m_impl_InnerOf x0 x1)) (m_impl_CrossOf x0 x1))) else ((p_impl_LongOf
      (m_impl_CrossOf x0 (1065353216, 0, 0))) && (p_impl_MendTurn (m_impl_turnOf 0 (if (fle .f32 (m_impl_LongOf (m_impl_CrossOf x0 (1065353216, 0, 0))) (fdiv .f32 (m_impl_LongOf x0)
      1149239296)) = true then (m_impl_CrossOf x0 (0, 1065353216, 0)) else (m_impl_CrossOf x0 (1065353216, 0, 0)))))))))
def g_impl_TurnBetween : List AV → Option AV
  | [.agg [.flt .f32 y0, .flt .f32 y1, .flt .f32 y2], .agg [.flt .f32 y3, .flt .f32 y4, .flt .f32 y5]] => if p_impl_TurnBetween (y0, y1,
      y2) (y3, y4, y5) = true then some (AV.agg [(.flt .f32 (m_impl_TurnBetween (y0, y1, y2) (y3, y4, y5)).1), (.flt .f32 (m_impl_TurnBetween (y0, y1, y2) (y3, y4, y5)).2.1), (.flt
      .f32 (m_impl_TurnBetween (y0, y1, y2) (y3, y4, y5)).2.2.1), (.flt .f32 (m_impl_TurnBetween (y0, y1, y2) (y3, y4, y5)).2.2.2)]) else none
  | _ => none
def ic70 : ICode := (.seq (.reg [⟨(some 2), none, (.box 3 (.t 0))⟩, ⟨(some 3), none, (.box 3 (.t 1))⟩, ⟨(some 4), none, (.alloc (.agg [(.flt .f32 0), (.flt .f32 0), (.flt .f32 0),
      (.flt .f32 0)]))⟩] [2, 3, 4]) (.seq (.reg [⟨(some 8), none, (.load (some 3) (.t 2))⟩, ⟨(some 9), none, (.call (.fn 42) [(.t 8)] [])⟩, ⟨(some 10), none, (.load (some 3) (.t
      3))⟩, ⟨(some 11), none, (.call (.fn 42) [(.t 10)] [])⟩, ⟨(some 12), none, (.bin .mul false (.t 9) (.t 11))⟩, ⟨(some 5), none, (.mov (.t 12))⟩] [2, 3, 4, 5]) (.seq (.seq (.reg
      [⟨(some 13), none, (.mov (.t 5))⟩, ⟨(some 14), none, (.load (some 3) (.t 2))⟩, ⟨(some 15), none, (.load (some 3) (.t 3))⟩, ⟨(some 16), none, (.call (.fn 49) [(.t 14), (.t 15)]
      [])⟩, ⟨(some 17), none, (.bin .add false (.t 13) (.t 16))⟩, ⟨(some 6), none, (.mov (.t 17))⟩] [2, 3, 4, 5, 6]) (.seq (.reg [⟨(some 18), none, (.mov (.t 6))⟩, ⟨(some 19), none,
      (.mov (.t 5))⟩, ⟨(some 20), none, (.bin .quo false (.t 19) (.c (.flt .f32 1149239296)))⟩, ⟨(some 21), none, (.bin .gtr false (.t 18) (.t 20))⟩] [2, 3, 4, 6, 21]) (.cond (.t
      21) (.seq (.reg [⟨(some 22), none, (.mov (.t 6))⟩, ⟨(some 23), none, (.load (some 3) (.t 2))⟩, ⟨(some 24), none, (.load (some 3) (.t 3))⟩, ⟨(some 25), none, (.call (.fn 91)
      [(.t 23), (.t 24)] [])⟩, ⟨(some 26), none, (.call (.fn 65) [(.t 22), (.t 25)] [])⟩, ⟨(some 27), none, (.call (.fn 90) [(.t 26)] [])⟩, ⟨none, none, (.store 4 (.t 4) (.t 27))⟩]
      [4]) .ret) .skip))) (.seq (.reg [⟨(some 28), none, (.load (some 3) (.t 2))⟩, ⟨(some 29), none, (.build [(.flt .f32 0), (.flt .f32 0), (.flt .f32 0)] [(0, 1, (.c (.flt .f32
      1065353216)))])⟩, ⟨(some 30), none, (.call (.fn 91) [(.t 28), (.t 29)] [])⟩, ⟨(some 7), none, (.alloc (.agg [(.flt .f32 0), (.flt .f32 0), (.flt .f32 0)]))⟩, ⟨none, none,
      (.store 3 (.t 7) (.t 30))⟩] [2, 4, 7]) (.seq (.seq (.reg [⟨(some 31), none, (.load (some 3) (.t 7))⟩, ⟨(some 32), none, (.call (.fn 42) [(.t 31)] [])⟩, ⟨(some 33), none,
      (.load (some 3) (.t 2))⟩, ⟨(some 34), none, (.call (.fn 42) [(.t 33)] [])⟩, ⟨(some 35), none, (.bin .quo false (.t 34) (.c (.flt .f32 1149239296)))⟩, ⟨(some 36), none, (.bin
      .leq false (.t 32) (.t 35))⟩] [2, 4, 7, 36]) (.cond (.t 36) (.reg [⟨(some 37), none, (.load (some 3) (.t 2))⟩, ⟨(some 38), none, (.build [(.flt .f32 0), (.flt .f32 0), (.flt
      .f32 0)] [(1, 1, (.c (.flt .f32 1065353216)))])⟩, ⟨(some 39), none, (.call (.fn 91) [(.t 37), (.t 38)] [])⟩, ⟨none, none, (.store 3 (.t 7) (.t 39))⟩] [4, 7]) .skip)) (.seq
      (.reg [⟨(some 40), none, (.load (some 3) (.t 7))⟩, ⟨(some 41), none, (.call (.fn 65) [(.c (.flt .f32 0)), (.t 40)] [])⟩, ⟨(some 42), none, (.call (.fn 90) [(.t 41)] [])⟩,
      ⟨none, none, (.store 4 (.t 4) (.t 42))⟩] [4]) .ret))))))
def cp70 : CP := { n := 43, kp := [[2, 3, 4], [2, 3, 4, 5], [2, 3, 4, 5, 6], [2, 3, 4, 6, 21], [4], [2, 4, 7], [2, 4, 7, 36], [4, 7], [4]] }
theorem fc70_0 : IntKind.wrap .i64 (-1) = (-1) := by decide
theorem fc70_1 : IntKind.wrap .i64 0 = 0 := by decide
theorem fc70_2 : IntKind.wrap .i64 1 = 1 := by decide
theorem fc70_3 : IntKind.wrap .i64 10 = 10 := by decide
theorem fc70_4 : IntKind.wrap .i64 11 = 11 := by decide
theorem fc70_5 : IntKind.wrap .i64 110 = 110 := by decide
theorem fc70_6 : IntKind.wrap .i64 12 = 12 := by decide
theorem fc70_7 : IntKind.wrap .i64 13 = 13 := by decide
theorem fc70_8 : IntKind.wrap .i64 14 = 14 := by decide
theorem fc70_9 : IntKind.wrap .i64 15 = 15 := by decide
theorem fc70_10 : IntKind.wrap .i64 156 = 156 := by decide
theorem fc70_11 : IntKind.wrap .i64 16 = 16 := by decide
theorem fc70_12 : IntKind.wrap .i64 17 = 17 := by decide
theorem fc70_13 : IntKind.wrap .i64 2 = 2 := by decide
theorem fc70_14 : IntKind.wrap .i64 20 = 20 := by decide
theorem fc70_15 : IntKind.wrap .i64 210 = 210 := by decide
theorem fc70_16 : IntKind.wrap .i64 272 = 272 := by decide
theorem fc70_17 : IntKind.wrap .i64 3 = 3 := by decide
theorem fc70_18 : IntKind.wrap .i64 4 = 4 := by decide
theorem fc70_19 : IntKind.wrap .i64 42 = 42 := by decide
theorem fc70_20 : IntKind.wrap .i64 5 = 5 := by decide
theorem fc70_21 : IntKind.wrap .i64 6 = 6 := by decide
theorem fc70_22 : IntKind.wrap .i64 7 = 7 := by decide
theorem fc70_23 : IntKind.wrap .i64 72 = 72 := by decide
theorem fc70_24 : IntKind.wrap .i64 8 = 8 := by decide
theorem fc70_25 : IntKind.wrap .i64 9 = 9 := by decide
theorem s70 : ∀ vs r, g_impl_TurnBetween vs = some r → Says Try.prog 70 vs r := by
  intro vs r h
  unfold g_impl_TurnBetween at h
  split at h
  · rename_i y0 y1 y2 y3 y4 y5
    split at h
    · rename_i hp
      cases h
      refine spec_of (tab := tabOf [(42, g_impl_LongOf), (49, g_impl_InnerOf), (65, g_impl_turnOf), (90, g_impl_MendTurn), (91, g_impl_CrossOf)]) (cp := cp70) (ic := ic70) (rvl := [(.c 4 (some 4))]) hm (tabOk_cons s42 (tabOk_cons s49 (tabOk_cons s65 (tabOk_cons s90 (tabOk_cons s91 tabOk_nil))))) Try.func70 rfl rfl rfl (by kernel_rfl) rfl (Nat.le_of_ble_eq_true rfl) ?_
      show eA _ _ _ _
      unfold ic70
      simp only [p_impl_TurnBetween, v_impl_TurnBetween_0, Bool.and_eq_true, Bool.or_eq_true, decide_eq_true_eq, Bool.not_eq_true', decide_eq_false_iff_not] at hp
      simp only [
          hp, eA_seq, eA_reg, eA_ret, eA_skip, eA_cond, eA_block, eA_exit, eCc_true, eCc_false, Kq_normal, Kq_ret, Kq_exit, Kb_normal, Kb_exit, Kb_ret, Kreg_eq, eI_nil, bindSt_some,
                bindSt_none, bindSt_ite, eR_eq, eGI_tt, eGI_ff, eGI_tf, eGI_ft, eop, vop, ev_t, ev_c, ev_f, Option.map, put_some, put_none, set_eq, setH_eq, get_eq, hp_eq,
                keep_cons, keep_nil, lk_cons, lk_nil, startSt, envOf, reduceIte, Nat.reduceEqDiff, Nat.reduceAdd, Nat.zero_add, Nat.add_zero, Nat.reduceMul, Nat.reduceLT,
                Nat.reduceLeDiff, bop, uop, intop, fltop, convop, true_or, or_true, Bool.false_eq_true, ret_ok, ret_normal, outV, rvV, rvs, ex_some, pureV, pureX, pureX.pure1',
                pure1, Bool.true_and, Bool.false_and, Bool.and_true, Bool.and_false, Option.isNone_none, AV.cells, AV.one, storable, laid, refless, refless1, List.all_cons,
                List.all_nil, List.length_cons, List.length_nil, List.getElem?_cons_zero, List.getElem?_cons_succ, List.set_cons_zero, List.set_cons_succ, List.set_nil,
                List.map_cons, List.map_nil, vload, loadC, storeC, vnil, vfaddr, vextract, callTo, List.mapM_cons, List.mapM_nil, Option.pure_def, Option.bind_eq_bind,
                Option.bind_some, tabOf_cons, flatT, flatE, flatC, and_self, and_true, true_and, implies_true, forall_const, not_true_eq_false, not_false_eq_true, false_implies,
                List.take_succ_cons, List.drop_succ_cons, List.take_zero, List.drop_zero, Bool.not_true, Bool.not_false, beq_self_eq_true, decide_true, decide_false, eq_self,
                Int.reduceEq, Int.reduceLE, Int.reduceLT, Bool.not_not, Bool.true_or, Bool.or_true, Bool.false_or, Bool.or_false, if_true, if_false, List.getElem?_nil, Kl_normal,
                Kl_exit, Kl_ret, fc70_0, fc70_1, fc70_2, fc70_3, fc70_4, fc70_5, fc70_6, fc70_7, fc70_8, fc70_9, fc70_10, fc70_11, fc70_12, fc70_13, fc70_14, fc70_15, fc70_16,
                fc70_17, fc70_18, fc70_19, fc70_20, fc70_21, fc70_22, fc70_23, fc70_24, fc70_25, cast_lit, toNat_lit, Int.reduceAdd, Int.reduceSub, Int.reduceMul, Int.reduceNeg,
                Int.reducePow, Nat.reducePow, Int.reduceToNat, Nat.reduceSub, Nat.mul_one, Int.toNat_zero, prod_eta, List.nil_append, List.cons_append, List.append_nil, Int.le_refl,
                Nat.le_refl, true_implies, take_all, vconv, vmm, vidxA, viaddrA, iaddr_sl, iaddr_lsl, getE, vfield, vlen, fillC, fillE, List.replicate, elemsOf, List.length_map,
                f2iK_eq, bits_i64, bits_i32, bits_u64, bits_u32, bits_u8, e_mov, g_mov, e_alloc, g_alloc, e_box, g_box, e_build, g_build, e_load, g_load, e_store, g_store, e_bin,
                g_bin, e_call, g_call, g_impl_LongOf, g_impl_InnerOf, g_impl_turnOf, g_impl_MendTurn, g_impl_CrossOf, dF32_map, dF64_map, dI64_map, dU8_map, dBool_map, dStr_map,
                decL, dF32, dF64, dI64, dU8, dBool, dStr]
      repeat' (first
        | ((first | (refine eGI_of (fun h => ?_) (fun h => ?_)) | (refine eCc_of (fun h => ?_) (fun h => ?_))) <;> (try simp only [Bool.not_eq_true', Bool.not_eq_false'] at h) <;> (try simp only [h, reduceCtorEq, Bool.not_eq_true', decide_eq_false_iff_not, Bool.not_true, Bool.not_false, Bool.false_or, Bool.true_or, Bool.true_and, Bool.false_and, Bool.and_eq_true, Bool.or_eq_true, if_true, if_false, reduceIte, Bool.false_eq_true, and_true, true_and, false_or, or_false, decide_eq_true_eq, not_false_eq_true, not_true_eq_false] at hp) <;> (try (have h2 := h; simp only [decide_eq_true_eq, decide_eq_false_iff_not] at h2; (first | (replace h2 := eq_false h2) | (replace h2 := eq_true h2)); simp only [h2, if_true, if_false, false_or, true_or, or_true, or_false, and_true, true_and, not_false_eq_true, not_true_eq_false] at hp)) <;> simp only [h,
          hp, eA_seq, eA_reg, eA_ret, eA_skip, eA_cond, eA_block, eA_exit, eCc_true, eCc_false, Kq_normal, Kq_ret, Kq_exit, Kb_normal, Kb_exit, Kb_ret, Kreg_eq, eI_nil, bindSt_some,
                bindSt_none, bindSt_ite, eR_eq, eGI_tt, eGI_ff, eGI_tf, eGI_ft, eop, vop, ev_t, ev_c, ev_f, Option.map, put_some, put_none, set_eq, setH_eq, get_eq, hp_eq,
                keep_cons, keep_nil, lk_cons, lk_nil, startSt, envOf, reduceIte, Nat.reduceEqDiff, Nat.reduceAdd, Nat.zero_add, Nat.add_zero, Nat.reduceMul, Nat.reduceLT,
                Nat.reduceLeDiff, bop, uop, intop, fltop, convop, true_or, or_true, Bool.false_eq_true, ret_ok, ret_normal, outV, rvV, rvs, ex_some, pureV, pureX, pureX.pure1',
                pure1, Bool.true_and, Bool.false_and, Bool.and_true, Bool.and_false, Option.isNone_none, AV.cells, AV.one, storable, laid, refless, refless1, List.all_cons,
                List.all_nil, List.length_cons, List.length_nil, List.getElem?_cons_zero, List.getElem?_cons_succ, List.set_cons_zero, List.set_cons_succ, List.set_nil,
                List.map_cons, List.map_nil, vload, loadC, storeC, vnil, vfaddr, vextract, callTo, List.mapM_cons, List.mapM_nil, Option.pure_def, Option.bind_eq_bind,
                Option.bind_some, tabOf_cons, flatT, flatE, flatC, and_self, and_true, true_and, implies_true, forall_const, not_true_eq_false, not_false_eq_true, false_implies,
                List.take_succ_cons, List.drop_succ_cons, List.take_zero, List.drop_zero, Bool.not_true, Bool.not_false, beq_self_eq_true, decide_true, decide_false, eq_self,
                Int.reduceEq, Int.reduceLE, Int.reduceLT, Bool.not_not, Bool.true_or, Bool.or_true, Bool.false_or, Bool.or_false, if_true, if_false, List.getElem?_nil, Kl_normal,
                Kl_exit, Kl_ret, fc70_0, fc70_1, fc70_2, fc70_3, fc70_4, fc70_5, fc70_6, fc70_7, fc70_8, fc70_9, fc70_10, fc70_11, fc70_12, fc70_13, fc70_14, fc70_15, fc70_16,
                fc70_17, fc70_18, fc70_19, fc70_20, fc70_21, fc70_22, fc70_23, fc70_24, fc70_25, cast_lit, toNat_lit, Int.reduceAdd, Int.reduceSub, Int.reduceMul, Int.reduceNeg,
                Int.reducePow, Nat.reducePow, Int.reduceToNat, Nat.reduceSub, Nat.mul_one, Int.toNat_zero, prod_eta, List.nil_append, List.cons_append, List.append_nil, Int.le_refl,
                Nat.le_refl, true_implies, take_all, vconv, vmm, vidxA, viaddrA, iaddr_sl, iaddr_lsl, getE, vfield, vlen, fillC, fillE, List.replicate, elemsOf, List.length_map,
                f2iK_eq, bits_i64, bits_i32, bits_u64, bits_u32, bits_u8, e_mov, g_mov, e_alloc, g_alloc, e_box, g_box, e_build, g_build, e_load, g_load, e_store, g_store, e_bin,
                g_bin, e_call, g_call, g_impl_LongOf, g_impl_InnerOf, g_impl_turnOf, g_impl_MendTurn, g_impl_CrossOf, dF32_map, dF64_map, dI64_map, dU8_map, dBool_map, dStr_map,
                decL, dF32, dF64, dI64, dU8, dBool, dStr]))
      all_goals (try simp only [*, m_impl_TurnBetween, v_impl_TurnBetween_0, Bool.and_true, Bool.true_and, Bool.and_false, Bool.false_and, Bool.or_true, Bool.true_or, Bool.or_false, Bool.false_or, Bool.not_true, Bool.not_false, Bool.false_eq_true, if_true, if_false, reduceIte, decide_true, decide_false])
      all_goals (try (simp_all; done))
    · cases h
  · cases h
def m_impl_Turn_vector (x0 : (Nat × Nat × Nat × Nat)) : (Nat × Nat × Nat) := (x0.2.1, x0.2.2.1, x0.2.2.2)
def g_impl_Turn_vector : List AV → Option AV
  | [.agg [.flt .f32 y0, .flt .f32 y1, .flt .f32 y2, .flt .f32 y3]] => some (AV.agg [(.flt .f32 (m_impl_Turn_vector (y0, y1, y2,
      y3)).1), (.flt .f32 (m_impl_Turn_vector (y0, y1, y2, y3)).2.1), (.flt .f32 (m_impl_Turn_vector (y0, y1, y2, y3)).2.2)])
  | _ => none
def ic57 : ICode := (.seq (.reg [⟨(some 1), none, (.box 4 (.t 0))⟩, ⟨(some 2), none, (.alloc (.agg [(.flt .f32 0), (.flt .f32 0), (.flt .f32 0)]))⟩] [1, 2]) (.seq (.reg [⟨(some 3),
      none, (.faddr 1 (.t 1))⟩, ⟨(some 4), none, (.load none (.t 3))⟩, ⟨(some 5), none, (.faddr 2 (.t 1))⟩, ⟨(some 6), none, (.load none (.t 5))⟩, ⟨(some 7), none, (.faddr 3 (.t
      1))⟩, ⟨(some 8), none, (.load none (.t 7))⟩, ⟨(some 9), none, (.build [(.flt .f32 0), (.flt .f32 0), (.flt .f32 0)] [(0, 1, (.t 4)), (1, 1, (.t 6)), (2, 1, (.t 8))])⟩, ⟨none,
      none, (.store 3 (.t 2) (.t 9))⟩] [2]) .ret))
def cp57 : CP := { n := 10, kp := [[1, 2], [2]] }
theorem fc57_0 : IntKind.wrap .i64 (-1) = (-1) := by decide
theorem fc57_1 : IntKind.wrap .i64 0 = 0 := by decide
theorem fc57_2 : IntKind.wrap .i64 1 = 1 := by decide
theorem fc57_3 : IntKind.wrap .i64 10 = 10 := by decide
theorem fc57_4 : IntKind.wrap .i64 11 = 11 := by decide
theorem fc57_5 : IntKind.wrap .i64 110 = 110 := by decide
theorem fc57_6 : IntKind.wrap .i64 12 = 12 := by decide
theorem fc57_7 : IntKind.wrap .i64 13 = 13 := by decide
theorem fc57_8 : IntKind.wrap .i64 14 = 14 := by decide
theorem fc57_9 : IntKind.wrap .i64 15 = 15 := by decide
theorem fc57_10 : IntKind.wrap .i64 156 = 156 := by decide
theorem fc57_11 : IntKind.wrap .i64 16 = 16 := by decide
theorem fc57_12 : IntKind.wrap .i64 17 = 17 := by decide
theorem fc57_13 : IntKind.wrap .i64 2 = 2 := by decide
theorem fc57_14 : IntKind.wrap .i64 20 = 20 := by decide
theorem fc57_15 : IntKind.wrap .i64 210 = 210 := by decide
theorem fc57_16 : IntKind.wrap .i64 272 = 272 := by decide
theorem fc57_17 : IntKind.wrap .i64 3 = 3 := by decide
theorem fc57_18 : IntKind.wrap .i64 4 = 4 := by decide
theorem fc57_19 : IntKind.wrap .i64 42 = 42 := by decide
theorem fc57_20 : IntKind.wrap .i64 5 = 5 := by decide
theorem fc57_21 : IntKind.wrap .i64 6 = 6 := by decide
theorem fc57_22 : IntKind.wrap .i64 7 = 7 := by decide
theorem fc57_23 : IntKind.wrap .i64 72 = 72 := by decide
theorem fc57_24 : IntKind.wrap .i64 8 = 8 := by decide
theorem fc57_25 : IntKind.wrap .i64 9 = 9 := by decide
theorem s57 : ∀ vs r, g_impl_Turn_vector vs = some r → Says Try.prog 57 vs r := by
  intro vs r h
  unfold g_impl_Turn_vector at h
  split at h
  · rename_i y0 y1 y2 y3
    cases h
    refine spec_of (tab := tabOf []) (cp := cp57) (ic := ic57) (rvl := [(.c 2 (some 3))]) hm tabOk_nil Try.func57 rfl rfl rfl (by kernel_rfl) rfl (Nat.le_of_ble_eq_true rfl) ?_
    show eA _ _ _ _
    unfold ic57
    simp only [
        eA_seq, eA_reg, eA_ret, eA_skip, eA_cond, eA_block, eA_exit, eCc_true, eCc_false, Kq_normal, Kq_ret, Kq_exit, Kb_normal, Kb_exit, Kb_ret, Kreg_eq, eI_nil, bindSt_some,
              bindSt_none, bindSt_ite, eR_eq, eGI_tt, eGI_ff, eGI_tf, eGI_ft, eop, vop, ev_t, ev_c, ev_f, Option.map, put_some, put_none, set_eq, setH_eq, get_eq, hp_eq, keep_cons,
              keep_nil, lk_cons, lk_nil, startSt, envOf, reduceIte, Nat.reduceEqDiff, Nat.reduceAdd, Nat.zero_add, Nat.add_zero, Nat.reduceMul, Nat.reduceLT, Nat.reduceLeDiff, bop,
              uop, intop, fltop, convop, true_or, or_true, Bool.false_eq_true, ret_ok, ret_normal, outV, rvV, rvs, ex_some, pureV, pureX, pureX.pure1', pure1, Bool.true_and,
              Bool.false_and, Bool.and_true, Bool.and_false, Option.isNone_none, AV.cells, AV.one, storable, laid, refless, refless1, List.all_cons, List.all_nil, List.length_cons,
              List.length_nil, List.getElem?_cons_zero, List.getElem?_cons_succ, List.set_cons_zero, List.set_cons_succ, List.set_nil, List.map_cons, List.map_nil, vload, loadC,
              storeC, vnil, vfaddr, vextract, callTo, List.mapM_cons, List.mapM_nil, Option.pure_def, Option.bind_eq_bind, Option.bind_some, tabOf_cons, flatT, flatE, flatC,
              and_self, and_true, true_and, implies_true, forall_const, not_true_eq_false, not_false_eq_true, false_implies, List.take_succ_cons, List.drop_succ_cons,
              List.take_zero, List.drop_zero, Bool.not_true, Bool.not_false, beq_self_eq_true, decide_true, decide_false, eq_self, Int.reduceEq, Int.reduceLE, Int.reduceLT,
              Bool.not_not, Bool.true_or, Bool.or_true, Bool.false_or, Bool.or_false, if_true, if_false, List.getElem?_nil, Kl_normal, Kl_exit, Kl_ret, fc57_0, fc57_1, fc57_2,
              fc57_3, fc57_4, fc57_5, fc57_6, fc57_7, fc57_8, fc57_9, fc57_10, fc57_11, fc57_12, fc57_13, fc57_14, fc57_15, fc57_16, fc57_17, fc57_18, fc57_19, fc57_20, fc57_21,
              fc57_22, fc57_23, fc57_24, fc57_25, cast_lit, toNat_lit, Int.reduceAdd, Int.reduceSub, Int.reduceMul, Int.reduceNeg, Int.reducePow, Nat.reducePow, Int.reduceToNat,
              Nat.reduceSub, Nat.mul_one, Int.toNat_zero, prod_eta, List.nil_append, List.cons_append, List.append_nil, Int.le_refl, Nat.le_refl, true_implies, take_all, vconv, vmm,
              vidxA, viaddrA, iaddr_sl, iaddr_lsl, getE, vfield, vlen, fillC, fillE, List.replicate, elemsOf, List.length_map, f2iK_eq, bits_i64, bits_i32, bits_u64, bits_u32,
              bits_u8, e_alloc, g_alloc, e_box, g_box, e_build, g_build, e_load, g_load, e_store, g_store, e_faddr, g_faddr, dF32_map, dF64_map, dI64_map, dU8_map, dBool_map,
              dStr_map, decL, dF32, dF64, dI64, dU8, dBool, dStr]
    repeat' (first
      | ((first | (refine eGI_of (fun h => ?_) (fun h => ?_)) | (refine eCc_of (fun h => ?_) (fun h => ?_))) <;> (try simp only [Bool.not_eq_true', Bool.not_eq_false'] at h) <;> simp only [h,
        eA_seq, eA_reg, eA_ret, eA_skip, eA_cond, eA_block, eA_exit, eCc_true, eCc_false, Kq_normal, Kq_ret, Kq_exit, Kb_normal, Kb_exit, Kb_ret, Kreg_eq, eI_nil, bindSt_some,
              bindSt_none, bindSt_ite, eR_eq, eGI_tt, eGI_ff, eGI_tf, eGI_ft, eop, vop, ev_t, ev_c, ev_f, Option.map, put_some, put_none, set_eq, setH_eq, get_eq, hp_eq, keep_cons,
              keep_nil, lk_cons, lk_nil, startSt, envOf, reduceIte, Nat.reduceEqDiff, Nat.reduceAdd, Nat.zero_add, Nat.add_zero, Nat.reduceMul, Nat.reduceLT, Nat.reduceLeDiff, bop,
              uop, intop, fltop, convop, true_or, or_true, Bool.false_eq_true, ret_ok, ret_normal, outV, rvV, rvs, ex_some, pureV, pureX, pureX.pure1', pure1, Bool.true_and,
              Bool.false_and, Bool.and_true, Bool.and_false, Option.isNone_none, AV.cells, AV.one, storable, laid, refless, refless1, List.all_cons, List.all_nil, List.length_cons,
              List.length_nil, List.getElem?_cons_zero, List.getElem?_cons_succ, List.set_cons_zero, List.set_cons_succ, List.set_nil, List.map_cons, List.map_nil, vload, loadC,
              storeC, vnil, vfaddr, vextract, callTo, List.mapM_cons, List.mapM_nil, Option.pure_def, Option.bind_eq_bind, Option.bind_some, tabOf_cons, flatT, flatE, flatC,
              and_self, and_true, true_and, implies_true, forall_const, not_true_eq_false, not_false_eq_true, false_implies, List.take_succ_cons, List.drop_succ_cons,
              List.take_zero, List.drop_zero, Bool.not_true, Bool.not_false, beq_self_eq_true, decide_true, decide_false, eq_self, Int.reduceEq, Int.reduceLE, Int.reduceLT,
              Bool.not_not, Bool.true_or, Bool.or_true, Bool.false_or, Bool.or_false, if_true, if_false, List.getElem?_nil, Kl_normal, Kl_exit, Kl_ret, fc57_0, fc57_1, fc57_2,
              fc57_3, fc57_4, fc57_5, fc57_6, fc57_7, fc57_8, fc57_9, fc57_10, fc57_11, fc57_12, fc57_13, fc57_14, fc57_15, fc57_16, fc57_17, fc57_18, fc57_19, fc57_20, fc57_21,
              fc57_22, fc57_23, fc57_24, fc57_25, cast_lit, toNat_lit, Int.reduceAdd, Int.reduceSub, Int.reduceMul, Int.reduceNeg, Int.reducePow, Nat.reducePow, Int.reduceToNat,
              Nat.reduceSub, Nat.mul_one, Int.toNat_zero, prod_eta, List.nil_append, List.cons_append, List.append_nil, Int.le_refl, Nat.le_refl, true_implies, take_all, vconv, vmm,
              vidxA, viaddrA, iaddr_sl, iaddr_lsl, getE, vfield, vlen, fillC, fillE, List.replicate, elemsOf, List.length_map, f2iK_eq, bits_i64, bits_i32, bits_u64, bits_u32,
              bits_u8, e_alloc, g_alloc, e_box, g_box, e_build, g_build, e_load, g_load, e_store, g_store, e_faddr, g_faddr, dF32_map, dF64_map, dI64_map, dU8_map, dBool_map,
              dStr_map, decL, dF32, dF64, dI64, dU8, dBool, dStr]))
    all_goals (try simp only [*, m_impl_Turn_vector, Bool.and_true, Bool.true_and, Bool.and_false, Bool.false_and, Bool.or_true, Bool.true_or, Bool.or_false, Bool.false_or, Bool.not_true, Bool.not_false, Bool.false_eq_true, if_true, if_false, reduceIte, decide_true, decide_false])
    all_goals (try (simp_all; done))
  · cases h
def m_impl_size (x0 : Nat) : Nat := (narrow (fabs (widen x0)))
def p_impl_size (x0 : Nat) : Bool := (narrowOk (fabs (widen x0)))
def g_impl_size : List AV → Option AV
  | [.flt .f32 y0] => if p_impl_size y0 = true then some (.flt .f32 (m_impl_size y0)) else none
  | _ => none
def ic86 : ICode := (.seq (.reg [⟨(some 2), none, (.mov (.c (.flt .f32 0)))⟩] [0]) (.seq (.reg [⟨(some 3), none, (.mov (.t 0))⟩, ⟨(some 4), none, (.conv (.flt .f64) (.t 3))⟩, ⟨(some
      5), none, (.call (.fn 71) [(.t 4)] [])⟩, ⟨(some 6), none, (.conv (.flt .f32) (.t 5))⟩, ⟨(some 2), none, (.mov (.t 6))⟩] [2]) .ret))
def cp86 : CP := { n := 7, kp := [[0], [2]] }
theorem fc86_0 : IntKind.wrap .i64 (-1) = (-1) := by decide
theorem fc86_1 : IntKind.wrap .i64 0 = 0 := by decide
theorem fc86_2 : IntKind.wrap .i64 1 = 1 := by decide
theorem fc86_3 : IntKind.wrap .i64 10 = 10 := by decide
theorem fc86_4 : IntKind.wrap .i64 11 = 11 := by decide
theorem fc86_5 : IntKind.wrap .i64 110 = 110 := by decide
theorem fc86_6 : IntKind.wrap .i64 12 = 12 := by decide
theorem fc86_7 : IntKind.wrap .i64 13 = 13 := by decide
theorem fc86_8 : IntKind.wrap .i64 14 = 14 := by decide
theorem fc86_9 : IntKind.wrap .i64 15 = 15 := by decide
theorem fc86_10 : IntKind.wrap .i64 156 = 156 := by decide
theorem fc86_11 : IntKind.wrap .i64 16 = 16 := by decide
theorem fc86_12 : IntKind.wrap .i64 17 = 17 := by decide
theorem fc86_13 : IntKind.wrap .i64 2 = 2 := by decide
theorem fc86_14 : IntKind.wrap .i64 20 = 20 := by decide
theorem fc86_15 : IntKind.wrap .i64 210 = 210 := by decide
theorem fc86_16 : IntKind.wrap .i64 272 = 272 := by decide
theorem fc86_17 : IntKind.wrap .i64 3 = 3 := by decide
theorem fc86_18 : IntKind.wrap .i64 4 = 4 := by decide
theorem fc86_19 : IntKind.wrap .i64 42 = 42 := by decide
theorem fc86_20 : IntKind.wrap .i64 5 = 5 := by decide
theorem fc86_21 : IntKind.wrap .i64 6 = 6 := by decide
theorem fc86_22 : IntKind.wrap .i64 7 = 7 := by decide
theorem fc86_23 : IntKind.wrap .i64 72 = 72 := by decide
theorem fc86_24 : IntKind.wrap .i64 8 = 8 := by decide
theorem fc86_25 : IntKind.wrap .i64 9 = 9 := by decide
theorem s86 : ∀ vs r, g_impl_size vs = some r → Says Try.prog 86 vs r := by
  intro vs r h
  unfold g_impl_size at h
  split at h
  · rename_i y0
    split at h
    · rename_i hp
      cases h
      refine spec_of (tab := tabOf [(71, g_abs)]) (cp := cp86) (ic := ic86) (rvl := [(.t 2)]) hm (tabOk_cons s71 tabOk_nil) Try.func86 rfl rfl rfl (by kernel_rfl) rfl (Nat.le_of_ble_eq_true rfl) ?_
      show eA _ _ _ _
      unfold ic86
      simp only [p_impl_size, Bool.and_eq_true, Bool.or_eq_true, decide_eq_true_eq, Bool.not_eq_true', decide_eq_false_iff_not] at hp
      simp only [
          hp, eA_seq, eA_reg, eA_ret, eA_skip, eA_cond, eA_block, eA_exit, eCc_true, eCc_false, Kq_normal, Kq_ret, Kq_exit, Kb_normal, Kb_exit, Kb_ret, Kreg_eq, eI_nil, bindSt_some,
                bindSt_none, bindSt_ite, eR_eq, eGI_tt, eGI_ff, eGI_tf, eGI_ft, eop, vop, ev_t, ev_c, ev_f, Option.map, put_some, put_none, set_eq, setH_eq, get_eq, hp_eq,
                keep_cons, keep_nil, lk_cons, lk_nil, startSt, envOf, reduceIte, Nat.reduceEqDiff, Nat.reduceAdd, Nat.zero_add, Nat.add_zero, Nat.reduceMul, Nat.reduceLT,
                Nat.reduceLeDiff, bop, uop, intop, fltop, convop, true_or, or_true, Bool.false_eq_true, ret_ok, ret_normal, outV, rvV, rvs, ex_some, pureV, pureX, pureX.pure1',
                pure1, Bool.true_and, Bool.false_and, Bool.and_true, Bool.and_false, Option.isNone_none, AV.cells, AV.one, storable, laid, refless, refless1, List.all_cons,
                List.all_nil, List.length_cons, List.length_nil, List.getElem?_cons_zero, List.getElem?_cons_succ, List.set_cons_zero, List.set_cons_succ, List.set_nil,
                List.map_cons, List.map_nil, vload, loadC, storeC, vnil, vfaddr, vextract, callTo, List.mapM_cons, List.mapM_nil, Option.pure_def, Option.bind_eq_bind,
                Option.bind_some, tabOf_cons, flatT, flatE, flatC, and_self, and_true, true_and, implies_true, forall_const, not_true_eq_false, not_false_eq_true, false_implies,
                List.take_succ_cons, List.drop_succ_cons, List.take_zero, List.drop_zero, Bool.not_true, Bool.not_false, beq_self_eq_true, decide_true, decide_false, eq_self,
                Int.reduceEq, Int.reduceLE, Int.reduceLT, Bool.not_not, Bool.true_or, Bool.or_true, Bool.false_or, Bool.or_false, if_true, if_false, List.getElem?_nil, Kl_normal,
                Kl_exit, Kl_ret, fc86_0, fc86_1, fc86_2, fc86_3, fc86_4, fc86_5, fc86_6, fc86_7, fc86_8, fc86_9, fc86_10, fc86_11, fc86_12, fc86_13, fc86_14, fc86_15, fc86_16,
                fc86_17, fc86_18, fc86_19, fc86_20, fc86_21, fc86_22, fc86_23, fc86_24, fc86_25, cast_lit, toNat_lit, Int.reduceAdd, Int.reduceSub, Int.reduceMul, Int.reduceNeg,
                Int.reducePow, Nat.reducePow, Int.reduceToNat, Nat.reduceSub, Nat.mul_one, Int.toNat_zero, prod_eta, List.nil_append, List.cons_append, List.append_nil, Int.le_refl,
                Nat.le_refl, true_implies, take_all, vconv, vmm, vidxA, viaddrA, iaddr_sl, iaddr_lsl, getE, vfield, vlen, fillC, fillE, List.replicate, elemsOf, List.length_map,
                f2iK_eq, bits_i64, bits_i32, bits_u64, bits_u32, bits_u8, e_mov, g_mov, e_conv, g_conv, e_call, g_call, g_abs, dF32_map, dF64_map, dI64_map, dU8_map, dBool_map,
                dStr_map, decL, dF32, dF64, dI64, dU8, dBool, dStr]
      repeat' (first
        | ((first | (refine eGI_of (fun h => ?_) (fun h => ?_)) | (refine eCc_of (fun h => ?_) (fun h => ?_))) <;> (try simp only [Bool.not_eq_true', Bool.not_eq_false'] at h) <;> (try simp only [h, reduceCtorEq, Bool.not_eq_true', decide_eq_false_iff_not, Bool.not_true, Bool.not_false, Bool.false_or, Bool.true_or, Bool.true_and, Bool.false_and, Bool.and_eq_true, Bool.or_eq_true, if_true, if_false, reduceIte, Bool.false_eq_true, and_true, true_and, false_or, or_false, decide_eq_true_eq, not_false_eq_true, not_true_eq_false] at hp) <;> (try (have h2 := h; simp only [decide_eq_true_eq, decide_eq_false_iff_not] at h2; (first | (replace h2 := eq_false h2) | (replace h2 := eq_true h2)); simp only [h2, if_true, if_false, false_or, true_or, or_true, or_false, and_true, true_and, not_false_eq_true, not_true_eq_false] at hp)) <;> simp only [h,
          hp, eA_seq, eA_reg, eA_ret, eA_skip, eA_cond, eA_block, eA_exit, eCc_true, eCc_false, Kq_normal, Kq_ret, Kq_exit, Kb_normal, Kb_exit, Kb_ret, Kreg_eq, eI_nil, bindSt_some,
                bindSt_none, bindSt_ite, eR_eq, eGI_tt, eGI_ff, eGI_tf, eGI_ft, eop, vop, ev_t, ev_c, ev_f, Option.map, put_some, put_none, set_eq, setH_eq, get_eq, hp_eq,
                keep_cons, keep_nil, lk_cons, lk_nil, startSt, envOf, reduceIte, Nat.reduceEqDiff, Nat.reduceAdd, Nat.zero_add, Nat.add_zero, Nat.reduceMul, Nat.reduceLT,
                Nat.reduceLeDiff, bop, uop, intop, fltop, convop, true_or, or_true, Bool.false_eq_true, ret_ok, ret_normal, outV, rvV, rvs, ex_some, pureV, pureX, pureX.pure1',
                pure1, Bool.true_and, Bool.false_and, Bool.and_true, Bool.and_false, Option.isNone_none, AV.cells, AV.one, storable, laid, refless, refless1, List.all_cons,
                List.all_nil, List.length_cons, List.length_nil, List.getElem?_cons_zero, List.getElem?_cons_succ, List.set_cons_zero, List.set_cons_succ, List.set_nil,
                List.map_cons, List.map_nil, vload, loadC, storeC, vnil, vfaddr, vextract, callTo, List.mapM_cons, List.mapM_nil, Option.pure_def, Option.bind_eq_bind,
                Option.bind_some, tabOf_cons, flatT, flatE, flatC, and_self, and_true, true_and, implies_true, forall_const, not_true_eq_false, not_false_eq_true, false_implies,
                List.take_succ_cons, List.drop_succ_cons, List.take_zero, List.drop_zero, Bool.not_true, Bool.not_false, beq_self_eq_true, decide_true, decide_false, eq_self,
                Int.reduceEq, Int.reduceLE, Int.reduceLT, Bool.not_not, Bool.true_or, Bool.or_true, Bool.false_or, Bool.or_false, if_true, if_false, List.getElem?_nil, Kl_normal,
                Kl_exit, Kl_ret, fc86_0, fc86_1, fc86_2, fc86_3, fc86_4, fc86_5, fc86_6, fc86_7, fc86_8, fc86_9, fc86_10, fc86_11, fc86_12, fc86_13, fc86_14, fc86_15, fc86_16,
                fc86_17, fc86_18, fc86_19, fc86_20, fc86_21, fc86_22, fc86_23, fc86_24, fc86_25, cast_lit, toNat_lit, Int.reduceAdd, Int.reduceSub, Int.reduceMul, Int.reduceNeg,
                Int.reducePow, Nat.reducePow, Int.reduceToNat, Nat.reduceSub, Nat.mul_one, Int.toNat_zero, prod_eta, List.nil_append, List.cons_append, List.append_nil, Int.le_refl,
                Nat.le_refl, true_implies, take_all, vconv, vmm, vidxA, viaddrA, iaddr_sl, iaddr_lsl, getE, vfield, vlen, fillC, fillE, List.replicate, elemsOf, List.length_map,
                f2iK_eq, bits_i64, bits_i32, bits_u64, bits_u32, bits_u8, e_mov, g_mov, e_conv, g_conv, e_call, g_call, g_abs, dF32_map, dF64_map, dI64_map, dU8_map, dBool_map,
                dStr_map, decL, dF32, dF64, dI64, dU8, dBool, dStr]))
      all_goals (try simp only [*, m_impl_size, Bool.and_true, Bool.true_and, Bool.and_false, Bool.false_and, Bool.or_true, Bool.true_or, Bool.or_false, Bool.false_or, Bool.not_true, Bool.not_false, Bool.false_eq_true, if_true, if_false, reduceIte, decide_true, decide_false])
      all_goals (try (simp_all; done))
    · cases h
  · cases h
def m_impl_notNumber  : Nat := (narrow (m_math_NaN))
def p_impl_notNumber  : Bool := (narrowOk (m_math_NaN))
def g_impl_notNumber : List AV → Option AV
  | [] => if p_impl_notNumber = true then some (.flt .f32 (m_impl_notNumber)) else none
  | _ => none
def ic77 : ICode := (.seq (.reg [⟨(some 0), none, (.mov (.c (.flt .f32 0)))⟩] []) (.seq (.reg [⟨(some 1), none, (.call (.fn 73) [] [])⟩, ⟨(some 2), none, (.conv (.flt .f32) (.t
      1))⟩, ⟨(some 0), none, (.mov (.t 2))⟩] [0]) .ret))
def cp77 : CP := { n := 3, kp := [[], [0]] }
theorem fc77_0 : IntKind.wrap .i64 (-1) = (-1) := by decide
theorem fc77_1 : IntKind.wrap .i64 0 = 0 := by decide
theorem fc77_2 : IntKind.wrap .i64 1 = 1 := by decide
theorem fc77_3 : IntKind.wrap .i64 10 = 10 := by decide
theorem fc77_4 : IntKind.wrap .i64 11 = 11 := by decide
theorem fc77_5 : IntKind.wrap .i64 110 = 110 := by decide
theorem fc77_6 : IntKind.wrap .i64 12 = 12 := by decide
theorem fc77_7 : IntKind.wrap .i64 13 = 13 := by decide
theorem fc77_8 : IntKind.wrap .i64 14 = 14 := by decide
theorem fc77_9 : IntKind.wrap .i64 15 = 15 := by decide
theorem fc77_10 : IntKind.wrap .i64 156 = 156 := by decide
theorem fc77_11 : IntKind.wrap .i64 16 = 16 := by decide
theorem fc77_12 : IntKind.wrap .i64 17 = 17 := by decide
theorem fc77_13 : IntKind.wrap .i64 2 = 2 := by decide
theorem fc77_14 : IntKind.wrap .i64 20 = 20 := by decide
theorem fc77_15 : IntKind.wrap .i64 210 = 210 := by decide
theorem fc77_16 : IntKind.wrap .i64 272 = 272 := by decide
theorem fc77_17 : IntKind.wrap .i64 3 = 3 := by decide
theorem fc77_18 : IntKind.wrap .i64 4 = 4 := by decide
theorem fc77_19 : IntKind.wrap .i64 42 = 42 := by decide
theorem fc77_20 : IntKind.wrap .i64 5 = 5 := by decide
theorem fc77_21 : IntKind.wrap .i64 6 = 6 := by decide
theorem fc77_22 : IntKind.wrap .i64 7 = 7 := by decide
theorem fc77_23 : IntKind.wrap .i64 72 = 72 := by decide
theorem fc77_24 : IntKind.wrap .i64 8 = 8 := by decide
theorem fc77_25 : IntKind.wrap .i64 9 = 9 := by decide
theorem s77 : ∀ vs r, g_impl_notNumber vs = some r → Says Try.prog 77 vs r := by
  intro vs r h
  unfold g_impl_notNumber at h
  split at h
  · split at h
    · rename_i hp
      cases h
      refine spec_of (tab := tabOf [(73, g_math_NaN)]) (cp := cp77) (ic := ic77) (rvl := [(.t 0)]) hm (tabOk_cons s73 tabOk_nil) Try.func77 rfl rfl rfl (by kernel_rfl) rfl (Nat.le_of_ble_eq_true rfl) ?_
      show eA _ _ _ _
      unfold ic77
      simp only [p_impl_notNumber, Bool.and_eq_true, Bool.or_eq_true, decide_eq_true_eq, Bool.not_eq_true', decide_eq_false_iff_not] at hp
      simp only [
          hp, eA_seq, eA_reg, eA_ret, eA_skip, eA_cond, eA_block, eA_exit, eCc_true, eCc_false, Kq_normal, Kq_ret, Kq_exit, Kb_normal, Kb_exit, Kb_ret, Kreg_eq, eI_nil, bindSt_some,
                bindSt_none, bindSt_ite, eR_eq, eGI_tt, eGI_ff, eGI_tf, eGI_ft, eop, vop, ev_t, ev_c, ev_f, Option.map, put_some, put_none, set_eq, setH_eq, get_eq, hp_eq,
                keep_cons, keep_nil, lk_cons, lk_nil, startSt, envOf, reduceIte, Nat.reduceEqDiff, Nat.reduceAdd, Nat.zero_add, Nat.add_zero, Nat.reduceMul, Nat.reduceLT,
                Nat.reduceLeDiff, bop, uop, intop, fltop, convop, true_or, or_true, Bool.false_eq_true, ret_ok, ret_normal, outV, rvV, rvs, ex_some, pureV, pureX, pureX.pure1',
                pure1, Bool.true_and, Bool.false_and, Bool.and_true, Bool.and_false, Option.isNone_none, AV.cells, AV.one, storable, laid, refless, refless1, List.all_cons,
                List.all_nil, List.length_cons, List.length_nil, List.getElem?_cons_zero, List.getElem?_cons_succ, List.set_cons_zero, List.set_cons_succ, List.set_nil,
                List.map_cons, List.map_nil, vload, loadC, storeC, vnil, vfaddr, vextract, callTo, List.mapM_cons, List.mapM_nil, Option.pure_def, Option.bind_eq_bind,
                Option.bind_some, tabOf_cons, flatT, flatE, flatC, and_self, and_true, true_and, implies_true, forall_const, not_true_eq_false, not_false_eq_true, false_implies,
                List.take_succ_cons, List.drop_succ_cons, List.take_zero, List.drop_zero, Bool.not_true, Bool.not_false, beq_self_eq_true, decide_true, decide_false, eq_self,
                Int.reduceEq, Int.reduceLE, Int.reduceLT, Bool.not_not, Bool.true_or, Bool.or_true, Bool.false_or, Bool.or_false, if_true, if_false, List.getElem?_nil, Kl_normal,
                Kl_exit, Kl_ret, fc77_0, fc77_1, fc77_2, fc77_3, fc77_4, fc77_5, fc77_6, fc77_7, fc77_8, fc77_9, fc77_10, fc77_11, fc77_12, fc77_13, fc77_14, fc77_15, fc77_16,
                fc77_17, fc77_18, fc77_19, fc77_20, fc77_21, fc77_22, fc77_23, fc77_24, fc77_25, cast_lit, toNat_lit, Int.reduceAdd, Int.reduceSub, Int.reduceMul, Int.reduceNeg,
                Int.reducePow, Nat.reducePow, Int.reduceToNat, Nat.reduceSub, Nat.mul_one, Int.toNat_zero, prod_eta, List.nil_append, List.cons_append, List.append_nil, Int.le_refl,
                Nat.le_refl, true_implies, take_all, vconv, vmm, vidxA, viaddrA, iaddr_sl, iaddr_lsl, getE, vfield, vlen, fillC, fillE, List.replicate, elemsOf, List.length_map,
                f2iK_eq, bits_i64, bits_i32, bits_u64, bits_u32, bits_u8, e_mov, g_mov, e_conv, g_conv, e_call, g_call, g_math_NaN, dF32_map, dF64_map, dI64_map, dU8_map, dBool_map,
                dStr_map, decL, dF32, dF64, dI64, dU8, dBool, dStr]
      repeat' (first
        | ((first | (refine eGI_of (fun h => ?_) (fun h => ?_)) | (refine eCc_of (fun h => ?_) (fun h => ?_))) <;> (try simp only [Bool.not_eq_true', Bool.not_eq_false'] at h) <;> (try simp only [h, reduceCtorEq, Bool.not_eq_true', decide_eq_false_iff_not, Bool.not_true, Bool.not_false, Bool.false_or, Bool.true_or, Bool.true_and, Bool.false_and, Bool.and_eq_true, Bool.or_eq_true, if_true, if_false, reduceIte, Bool.false_eq_true, and_true, true_and, false_or, or_false, decide_eq_true_eq, not_false_eq_true, not_true_eq_false] at hp) <;> (try (have h2 := h; simp only [decide_eq_true_eq, decide_eq_false_iff_not] at h2; (first | (replace h2 := eq_false h2) | (replace h2 := eq_true h2)); simp only [h2, if_true, if_false, false_or, true_or, or_true, or_false, and_true, true_and, not_false_eq_true, not_true_eq_false] at hp)) <;> simp only [h,
          hp, eA_seq, eA_reg, eA_ret, eA_skip, eA_cond, eA_block, eA_exit, eCc_true, eCc_false, Kq_normal, Kq_ret, Kq_exit, Kb_normal, Kb_exit, Kb_ret, Kreg_eq, eI_nil, bindSt_some,
                bindSt_none, bindSt_ite, eR_eq, eGI_tt, eGI_ff, eGI_tf, eGI_ft, eop, vop, ev_t, ev_c, ev_f, Option.map, put_some, put_none, set_eq, setH_eq, get_eq, hp_eq,
                keep_cons, keep_nil, lk_cons, lk_nil, startSt, envOf, reduceIte, Nat.reduceEqDiff, Nat.reduceAdd, Nat.zero_add, Nat.add_zero, Nat.reduceMul, Nat.reduceLT,
                Nat.reduceLeDiff, bop, uop, intop, fltop, convop, true_or, or_true, Bool.false_eq_true, ret_ok, ret_normal, outV, rvV, rvs, ex_some, pureV, pureX, pureX.pure1',
                pure1, Bool.true_and, Bool.false_and, Bool.and_true, Bool.and_false, Option.isNone_none, AV.cells, AV.one, storable, laid, refless, refless1, List.all_cons,
                List.all_nil, List.length_cons, List.length_nil, List.getElem?_cons_zero, List.getElem?_cons_succ, List.set_cons_zero, List.set_cons_succ, List.set_nil,
                List.map_cons, List.map_nil, vload, loadC, storeC, vnil, vfaddr, vextract, callTo, List.mapM_cons, List.mapM_nil, Option.pure_def, Option.bind_eq_bind,
                Option.bind_some, tabOf_cons, flatT, flatE, flatC, and_self, and_true, true_and, implies_true, forall_const, not_true_eq_false, not_false_eq_true, false_implies,
                List.take_succ_cons, List.drop_succ_cons, List.take_zero, List.drop_zero, Bool.not_true, Bool.not_false, beq_self_eq_true, decide_true, decide_false, eq_self,
                Int.reduceEq, Int.reduceLE, Int.reduceLT, Bool.not_not, Bool.true_or, Bool.or_true, Bool.false_or, Bool.or_false, if_true, if_false, List.getElem?_nil, Kl_normal,
                Kl_exit, Kl_ret, fc77_0, fc77_1, fc77_2, fc77_3, fc77_4, fc77_5, fc77_6, fc77_7, fc77_8, fc77_9, fc77_10, fc77_11, fc77_12, fc77_13, fc77_14, fc77_15, fc77_16,
                fc77_17, fc77_18, fc77_19, fc77_20, fc77_21, fc77_22, fc77_23, fc77_24, fc77_25, cast_lit, toNat_lit, Int.reduceAdd, Int.reduceSub, Int.reduceMul, Int.reduceNeg,
                Int.reducePow, Nat.reducePow, Int.reduceToNat, Nat.reduceSub, Nat.mul_one, Int.toNat_zero, prod_eta, List.nil_append, List.cons_append, List.append_nil, Int.le_refl,
                Nat.le_refl, true_implies, take_all, vconv, vmm, vidxA, viaddrA, iaddr_sl, iaddr_lsl, getE, vfield, vlen, fillC, fillE, List.replicate, elemsOf, List.length_map,
                f2iK_eq, bits_i64, bits_i32, bits_u64, bits_u32, bits_u8, e_mov, g_mov, e_conv, g_conv, e_call, g_call, g_math_NaN, dF32_map, dF64_map, dI64_map, dU8_map, dBool_map,
                dStr_map, decL, dF32, dF64, dI64, dU8, dBool, dStr]))
      all_goals (try simp only [*, m_impl_notNumber, Bool.and_true, Bool.true_and, Bool.and_false, Bool.false_and, Bool.or_true, Bool.true_or, Bool.or_false, Bool.false_or, Bool.not_true, Bool.not_false, Bool.false_eq_true, if_true, if_false, reduceIte, decide_true, decide_false])
      all_goals (try (simp_all; done))
    · cases h
  · cases h
def v_impl_wideAngle_0 (x0 : Nat) (x1 : Nat) : Nat := (fmul .f64 (if (flt .f64 (fabs x1) (fabs x0)) = true then (fdiv .f64 (fabs x1) (fabs x0)) else (fdiv .f64 (fabs x0) (fabs x1)))
      (if (flt .f64 (fabs x1) (fabs x0)) = true then (fdiv .f64 (fabs x1) (fabs x0)) else (fdiv .f64 (fabs x0) (fabs x1))))
def v_impl_wideAngle_1 (x0 : Nat) (x1 : Nat) : Nat := (fdiv .f64 (if (flt .f64 (fabs x1) (fabs x0)) = true then (fdiv .f64 (fabs x1) (fabs x0)) else (fdiv .f64 (fabs x0) (fabs x1)))
      (fadd .f64 4607182418800017408 (m_math_Sqrt (fadd .f64 4607182418800017408 (v_impl_wideAngle_0 x0 x1)))))
def v_impl_wideAngle_2 (x0 : Nat) (x1 : Nat) : Nat := (fdiv .f64 (v_impl_wideAngle_1 x0 x1) (fadd .f64 4607182418800017408 (m_math_Sqrt (fadd .f64 4607182418800017408 (fmul .f64
      (v_impl_wideAngle_1 x0 x1) (v_impl_wideAngle_1 x0 x1))))))
def v_impl_wideAngle_3 (x0 : Nat) (x1 : Nat) : Nat := (fdiv .f64 (v_impl_wideAngle_2 x0 x1) (fadd .f64 4607182418800017408 (m_math_Sqrt (fadd .f64 4607182418800017408 (fmul .f64
      (v_impl_wideAngle_2 x0 x1) (v_impl_wideAngle_2 x0 x1))))))
def v_impl_wideAngle_4 (x0 : Nat) (x1 : Nat) : Nat := (fmul .f64 (fmul .f64 (v_impl_wideAngle_3 x0 x1) (v_impl_wideAngle_3 x0 x1)) (fsub .f64 (fdiv .f64 4607182418800017408 (ofInt
      .f64 15)) (fmul .f64 (fmul .f64 (v_impl_wideAngle_3 x0 x1) (v_impl_wideAngle_3 x0 x1)) 0)))
def v_impl_wideAngle_5 (x0 : Nat) (x1 : Nat) : Nat := (fmul .f64 (fmul .f64 (v_impl_wideAngle_3 x0 x1) (v_impl_wideAngle_3 x0 x1)) (fsub .f64 (fdiv .f64 4607182418800017408 (ofInt
      .f64 13)) (v_impl_wideAngle_4 x0 x1)))
def v_impl_wideAngle_6 (x0 : Nat) (x1 : Nat) : Nat := (fmul .f64 (fmul .f64 (v_impl_wideAngle_3 x0 x1) (v_impl_wideAngle_3 x0 x1)) (fsub .f64 (fdiv .f64 4607182418800017408 (ofInt
      .f64 11)) (v_impl_wideAngle_5 x0 x1)))
def v_impl_wideAngle_7 (x0 : Nat) (x1 : Nat) : Nat := (fmul .f64 (fmul .f64 (v_impl_wideAngle_3 x0 x1) (v_impl_wideAngle_3 x0 x1)) (fsub .f64 (fdiv .f64 4607182418800017408 (ofInt
      .f64 9)) (v_impl_wideAngle_6 x0 x1)))
def v_impl_wideAngle_8 (x0 : Nat) (x1 : Nat) : Nat := (fmul .f64 (fmul .f64 (v_impl_wideAngle_3 x0 x1) (v_impl_wideAngle_3 x0 x1)) (fsub .f64 (fdiv .f64 4607182418800017408 (ofInt
      .f64 7)) (v_impl_wideAngle_7 x0 x1)))
def v_impl_wideAngle_9 (x0 : Nat) (x1 : Nat) : Nat := (fmul .f64 (fmul .f64 (v_impl_wideAngle_3 x0 x1) (v_impl_wideAngle_3 x0 x1)) (fsub .f64 (fdiv .f64 4607182418800017408 (ofInt
      .f64 5)) (v_impl_wideAngle_8 x0 x1)))
def v_impl_wideAngle_10 (x0 : Nat) (x1 : Nat) : Nat := (fmul .f64 (fmul .f64 (v_impl_wideAngle_3 x0 x1) (v_impl_wideAngle_3 x0 x1)) (fsub .f64 (fdiv .f64 4607182418800017408 (ofInt
      .f64 3)) (v_impl_wideAngle_9 x0 x1)))
def v_impl_wideAngle_11 (x0 : Nat) (x1 : Nat) : Nat := (fdiv .f64 (fmul .f64 4620693217682128896 (fmul .f64 (v_impl_wideAngle_3 x0 x1) (fsub .f64 (fdiv .f64 4607182418800017408
      (ofInt .f64 1)) (v_impl_wideAngle_10 x0 x1)))) 4618760256179416344)
def v_impl_wideAngle_12 (x0 : Nat) (x1 : Nat) : Nat := (fsub .f64 4602678819172646912 (if (flt .f64 (fabs x1) (fabs x0)) = true then (fsub .f64 4598175219545276416
      (v_impl_wideAngle_11 x0 x1)) else (v_impl_wideAngle_11 x0 x1)))
def v_impl_wideAngle_13 (x0 : Nat) (x1 : Nat) : Nat := (if (flt .f64 x1 0) = true then (v_impl_wideAngle_12 x0 x1) else (if (flt .f64 (fabs x1) (fabs x0)) = true then (fsub .f64
      4598175219545276416 (v_impl_wideAngle_11 x0 x1)) else (v_impl_wideAngle_11 x0 x1)))
def m_impl_wideAngle (x0 : Nat) (x1 : Nat) : Nat := (if (flt .f64 x0 0) = true then (fneg .f64 (v_impl_wideAngle_13 x0 x1)) else (v_impl_wideAngle_13 x0 x1))
def g_impl_wideAngle : List AV → Option AV
  | [.flt .f64 y0, .flt .f64 y1] => some (.flt .f64 (m_impl_wideAngle y0 y1))
  | _ => none
def ic52 : ICode := (.seq (.reg [⟨(some 4), none, (.mov (.c (.flt .f64 0)))⟩] [0, 1]) (.seq (.reg [⟨(some 12), none, (.mov (.t 0))⟩, ⟨(some 13), none, (.call (.fn 71) [(.t 12)]
      [])⟩, ⟨(some 14), none, (.mov (.t 1))⟩, ⟨(some 15), none, (.call (.fn 71) [(.t 14)] [])⟩, ⟨(some 5), none, (.mov (.t 13))⟩, ⟨(some 6), none, (.mov (.t 15))⟩] [0, 1, 5, 6])
      (.seq (.reg [⟨(some 16), none, (.mov (.t 5))⟩, ⟨(some 17), none, (.mov (.t 6))⟩, ⟨(some 18), none, (.bin .quo false (.t 16) (.t 17))⟩, ⟨(some 7), none, (.mov (.t 18))⟩] [0, 1,
      5, 6, 7]) (.seq (.seq (.reg [⟨(some 19), none, (.mov (.t 5))⟩, ⟨(some 20), none, (.mov (.t 6))⟩, ⟨(some 21), none, (.bin .gtr false (.t 19) (.t 20))⟩] [0, 1, 5, 6, 7, 21])
      (.cond (.t 21) (.reg [⟨(some 22), none, (.mov (.t 6))⟩, ⟨(some 23), none, (.mov (.t 5))⟩, ⟨(some 24), none, (.bin .quo false (.t 22) (.t 23))⟩, ⟨(some 7), none, (.mov (.t
      24))⟩] [0, 1, 5, 6, 7]) .skip)) (.seq (.seq (.reg [⟨(some 25), none, (.mov (.c (.int .i64 0)))⟩] [0, 1, 5, 6, 7, 25]) (.block 0 (.loop (.seq (.reg [⟨(some 26), none, (.bin
      .lss false (.t 25) (.c (.int .i64 3)))⟩] [0, 1, 5, 6, 7, 25, 26]) (.seq (.cond (.t 26) .skip (.exit 0)) (.seq (.block 1 (.reg [⟨(some 27), none, (.mov (.t 7))⟩, ⟨(some 28),
      none, (.mov (.t 7))⟩, ⟨(some 29), none, (.mov (.t 7))⟩, ⟨(some 30), none, (.bin .mul false (.t 28) (.t 29))⟩, ⟨(some 31), none, (.bin .add false (.c (.flt .f64
      4607182418800017408)) (.t 30))⟩, ⟨(some 32), none, (.call (.fn 53) [(.t 31)] [])⟩, ⟨(some 33), none, (.bin .add false (.c (.flt .f64 4607182418800017408)) (.t 32))⟩, ⟨(some
      34), none, (.bin .quo false (.t 27) (.t 33))⟩, ⟨(some 7), none, (.mov (.t 34))⟩] [0, 1, 5, 6, 7, 25])) (.reg [⟨(some 35), none, (.bin .add false (.t 25) (.c (.int .i64 1)))⟩,
      ⟨(some 25), none, (.mov (.t 35))⟩] [0, 1, 5, 6, 7, 25]))))))) (.seq (.reg [⟨(some 36), none, (.mov (.t 7))⟩, ⟨(some 37), none, (.mov (.t 7))⟩, ⟨(some 38), none, (.bin .mul
      false (.t 36) (.t 37))⟩, ⟨(some 8), none, (.mov (.t 38))⟩] [0, 1, 5, 6, 7, 8]) (.seq (.reg [⟨(some 9), none, (.mov (.c (.flt .f64 0)))⟩] [0, 1, 5, 6, 7, 8, 9]) (.seq (.seq
      (.reg [⟨(some 10), none, (.mov (.c (.int .i64 15)))⟩] [0, 1, 5, 6, 7, 8, 9, 10]) (.block 2 (.loop (.seq (.seq (.reg [⟨(some 39), none, (.mov (.t 10))⟩, ⟨(some 40), none, (.bin
      .geq false (.t 39) (.c (.int .i64 1)))⟩] [0, 1, 5, 6, 7, 8, 9, 10, 40]) (.cond (.t 40) .skip (.exit 2))) (.seq (.block 3 (.reg [⟨(some 43), none, (.mov (.t 10))⟩, ⟨(some 44),
      none, (.conv (.flt .f64) (.t 43))⟩, ⟨(some 45), none, (.bin .quo false (.c (.flt .f64 4607182418800017408)) (.t 44))⟩, ⟨(some 46), none, (.mov (.t 8))⟩, ⟨(some 47), none,
      (.mov (.t 9))⟩, ⟨(some 48), none, (.bin .mul false (.t 46) (.t 47))⟩, ⟨(some 49), none, (.bin .sub false (.t 45) (.t 48))⟩, ⟨(some 9), none, (.mov (.t 49))⟩] [0, 1, 5, 6, 7,
      8, 9, 10])) (.reg [⟨(some 41), none, (.mov (.t 10))⟩, ⟨(some 42), none, (.bin .sub false (.t 41) (.c (.int .i64 2)))⟩, ⟨(some 10), none, (.mov (.t 42))⟩] [0, 1, 5, 6, 7, 8, 9,
      10])))))) (.seq (.reg [⟨(some 50), none, (.mov (.t 7))⟩, ⟨(some 51), none, (.mov (.t 9))⟩, ⟨(some 52), none, (.bin .mul false (.t 50) (.t 51))⟩, ⟨(some 53), none, (.bin .mul
      false (.c (.flt .f64 4620693217682128896)) (.t 52))⟩, ⟨(some 54), none, (.bin .quo false (.t 53) (.c (.flt .f64 4618760256179416344)))⟩, ⟨(some 11), none, (.mov (.t 54))⟩] [0,
      1, 5, 6, 11]) (.seq (.seq (.reg [⟨(some 55), none, (.mov (.t 5))⟩, ⟨(some 56), none, (.mov (.t 6))⟩, ⟨(some 57), none, (.bin .gtr false (.t 55) (.t 56))⟩] [0, 1, 11, 57])
      (.cond (.t 57) (.reg [⟨(some 58), none, (.mov (.t 11))⟩, ⟨(some 59), none, (.bin .sub false (.c (.flt .f64 4598175219545276416)) (.t 58))⟩, ⟨(some 11), none, (.mov (.t 59))⟩]
      [0, 1, 11]) .skip)) (.seq (.seq (.reg [⟨(some 60), none, (.mov (.t 1))⟩, ⟨(some 61), none, (.bin .lss false (.t 60) (.c (.flt .f64 0)))⟩] [0, 11, 61]) (.cond (.t 61) (.reg
      [⟨(some 62), none, (.mov (.t 11))⟩, ⟨(some 63), none, (.bin .sub false (.c (.flt .f64 4602678819172646912)) (.t 62))⟩, ⟨(some 11), none, (.mov (.t 63))⟩] [0, 11]) .skip))
      (.seq (.seq (.reg [⟨(some 64), none, (.mov (.t 0))⟩, ⟨(some 65), none, (.bin .lss false (.t 64) (.c (.flt .f64 0)))⟩] [11, 65]) (.cond (.t 65) (.reg [⟨(some 66), none, (.mov
      (.t 11))⟩, ⟨(some 67), none, (.un .neg (.t 66))⟩, ⟨(some 11), none, (.mov (.t 67))⟩] [11]) .skip)) (.seq (.reg [⟨(some 68), none, (.mov (.t 11))⟩, ⟨(some 4), none, (.mov (.t
      68))⟩] [4]) .ret)))))))))))))
def cp52 : CP := { n := 69, kp := [[0, 1], [0, 1, 5, 6], [0, 1, 5, 6, 7], [0, 1, 5, 6, 7, 21], [0, 1, 5, 6, 7], [0, 1, 5, 6, 7, 25], [0, 1, 5, 6, 7, 25, 26], [0, 1, 5, 6, 7, 25],
      [0, 1, 5, 6, 7, 25], [0, 1, 5, 6, 7, 8], [0, 1, 5, 6, 7, 8, 9], [0, 1, 5, 6, 7, 8, 9, 10], [0, 1, 5, 6, 7, 8, 9, 10, 40], [0, 1, 5, 6, 7, 8, 9, 10], [0, 1, 5, 6, 7, 8, 9, 10],
      [0, 1, 5, 6, 11], [0, 1, 11, 57], [0, 1, 11], [0, 11, 61], [0, 11], [11, 65], [11], [4]] }
theorem fc52_0 : IntKind.wrap .i64 (-1) = (-1) := by decide
theorem fc52_1 : IntKind.wrap .i64 0 = 0 := by decide
theorem fc52_2 : IntKind.wrap .i64 1 = 1 := by decide
theorem fc52_3 : IntKind.wrap .i64 10 = 10 := by decide
theorem fc52_4 : IntKind.wrap .i64 11 = 11 := by decide
theorem fc52_5 : IntKind.wrap .i64 110 = 110 := by decide
theorem fc52_6 : IntKind.wrap .i64 12 = 12 := by decide
theorem fc52_7 : IntKind.wrap .i64 13 = 13 := by decide
theorem fc52_8 : IntKind.wrap .i64 14 = 14 := by decide
theorem fc52_9 : IntKind.wrap .i64 15 = 15 := by decide
theorem fc52_10 : IntKind.wrap .i64 156 = 156 := by decide
theorem fc52_11 : IntKind.wrap .i64 16 = 16 := by decide
theorem fc52_12 : IntKind.wrap .i64 17 = 17 := by decide
theorem fc52_13 : IntKind.wrap .i64 2 = 2 := by decide
theorem fc52_14 : IntKind.wrap .i64 20 = 20 := by decide
theorem fc52_15 : IntKind.wrap .i64 210 = 210 := by decide
theorem fc52_16 : IntKind.wrap .i64 272 = 272 := by decide
theorem fc52_17 : IntKind.wrap .i64 3 = 3 := by decide
theorem fc52_18 : IntKind.wrap .i64 4 = 4 := by decide
theorem fc52_19 : IntKind.wrap .i64 42 = 42 := by decide
theorem fc52_20 : IntKind.wrap .i64 5 = 5 := by decide
theorem fc52_21 : IntKind.wrap .i64 6 = 6 := by decide
theorem fc52_22 : IntKind.wrap .i64 7 = 7 := by decide
theorem fc52_23 : IntKind.wrap .i64 72 = 72 := by decide
theorem fc52_24 : IntKind.wrap .i64 8 = 8 := by decide
theorem fc52_25 : IntKind.wrap .i64 9 = 9 := by decide
theorem s52 : ∀ vs r, g_impl_wideAngle vs = some r → Says Try.prog 52 vs r := by
  intro vs r h
  unfold g_impl_wideAngle at h
  split at h
  · rename_i y0 y1
    cases h
    refine spec_of (tab := tabOf [(53, g_math_Sqrt), (71, g_abs)]) (cp := cp52) (ic := ic52) (rvl := [(.t 4)]) hm (tabOk_cons s53 (tabOk_cons s71 tabOk_nil)) Try.func52 rfl rfl rfl (by kernel_rfl) rfl (Nat.le_of_ble_eq_true rfl) ?_
    show eA _ _ _ _
    unfold ic52
    simp only [
        eA_seq, eA_reg, eA_ret, eA_skip, eA_cond, eA_block, eA_exit, eCc_true, eCc_false, Kq_normal, Kq_ret, Kq_exit, Kb_normal, Kb_exit, Kb_ret, Kreg_eq, eI_nil, bindSt_some,
              bindSt_none, bindSt_ite, eR_eq, eGI_tt, eGI_ff, eGI_tf, eGI_ft, eop, vop, ev_t, ev_c, ev_f, Option.map, put_some, put_none, set_eq, setH_eq, get_eq, hp_eq, keep_cons,
              keep_nil, lk_cons, lk_nil, startSt, envOf, reduceIte, Nat.reduceEqDiff, Nat.reduceAdd, Nat.zero_add, Nat.add_zero, Nat.reduceMul, Nat.reduceLT, Nat.reduceLeDiff, bop,
              uop, intop, fltop, convop, true_or, or_true, Bool.false_eq_true, ret_ok, ret_normal, outV, rvV, rvs, ex_some, pureV, pureX, pureX.pure1', pure1, Bool.true_and,
              Bool.false_and, Bool.and_true, Bool.and_false, Option.isNone_none, AV.cells, AV.one, storable, laid, refless, refless1, List.all_cons, List.all_nil, List.length_cons,
              List.length_nil, List.getElem?_cons_zero, List.getElem?_cons_succ, List.set_cons_zero, List.set_cons_succ, List.set_nil, List.map_cons, List.map_nil, vload, loadC,
              storeC, vnil, vfaddr, vextract, callTo, List.mapM_cons, List.mapM_nil, Option.pure_def, Option.bind_eq_bind, Option.bind_some, tabOf_cons, flatT, flatE, flatC,
              and_self, and_true, true_and, implies_true, forall_const, not_true_eq_false, not_false_eq_true, false_implies, List.take_succ_cons, List.drop_succ_cons,
              List.take_zero, List.drop_zero, Bool.not_true, Bool.not_false, beq_self_eq_true, decide_true, decide_false, eq_self, Int.reduceEq, Int.reduceLE, Int.reduceLT,
              Bool.not_not, Bool.true_or, Bool.or_true, Bool.false_or, Bool.or_false, if_true, if_false, List.getElem?_nil, Kl_normal, Kl_exit, Kl_ret, fc52_0, fc52_1, fc52_2,
              fc52_3, fc52_4, fc52_5, fc52_6, fc52_7, fc52_8, fc52_9, fc52_10, fc52_11, fc52_12, fc52_13, fc52_14, fc52_15, fc52_16, fc52_17, fc52_18, fc52_19, fc52_20, fc52_21,
              fc52_22, fc52_23, fc52_24, fc52_25, cast_lit, toNat_lit, Int.reduceAdd, Int.reduceSub, Int.reduceMul, Int.reduceNeg, Int.reducePow, Nat.reducePow, Int.reduceToNat,
              Nat.reduceSub, Nat.mul_one, Int.toNat_zero, prod_eta, List.nil_append, List.cons_append, List.append_nil, Int.le_refl, Nat.le_refl, true_implies, take_all, vconv, vmm,
              vidxA, viaddrA, iaddr_sl, iaddr_lsl, getE, vfield, vlen, fillC, fillE, List.replicate, elemsOf, List.length_map, f2iK_eq, bits_i64, bits_i32, bits_u64, bits_u32,
              bits_u8, e_mov, g_mov, e_bin, g_bin, e_un, g_un, e_conv, g_conv, e_call, g_call, g_math_Sqrt, g_abs, dF32_map, dF64_map, dI64_map, dU8_map, dBool_map, dStr_map, decL,
              dF32, dF64, dI64, dU8, dBool, dStr]
    repeat' (first
      | ((first | (refine eGI_of (fun h => ?_) (fun h => ?_)) | (refine eCc_of (fun h => ?_) (fun h => ?_)) | (have h := True.intro; refine KW_refl ?_) | (have h := True.intro; refine eA_loop ?_)) <;> (try simp only [Bool.not_eq_true', Bool.not_eq_false'] at h) <;> simp only [h,
        eA_seq, eA_reg, eA_ret, eA_skip, eA_cond, eA_block, eA_exit, eCc_true, eCc_false, Kq_normal, Kq_ret, Kq_exit, Kb_normal, Kb_exit, Kb_ret, Kreg_eq, eI_nil, bindSt_some,
              bindSt_none, bindSt_ite, eR_eq, eGI_tt, eGI_ff, eGI_tf, eGI_ft, eop, vop, ev_t, ev_c, ev_f, Option.map, put_some, put_none, set_eq, setH_eq, get_eq, hp_eq, keep_cons,
              keep_nil, lk_cons, lk_nil, startSt, envOf, reduceIte, Nat.reduceEqDiff, Nat.reduceAdd, Nat.zero_add, Nat.add_zero, Nat.reduceMul, Nat.reduceLT, Nat.reduceLeDiff, bop,
              uop, intop, fltop, convop, true_or, or_true, Bool.false_eq_true, ret_ok, ret_normal, outV, rvV, rvs, ex_some, pureV, pureX, pureX.pure1', pure1, Bool.true_and,
              Bool.false_and, Bool.and_true, Bool.and_false, Option.isNone_none, AV.cells, AV.one, storable, laid, refless, refless1, List.all_cons, List.all_nil, List.length_cons,
              List.length_nil, List.getElem?_cons_zero, List.getElem?_cons_succ, List.set_cons_zero, List.set_cons_succ, List.set_nil, List.map_cons, List.map_nil, vload, loadC,
              storeC, vnil, vfaddr, vextract, callTo, List.mapM_cons, List.mapM_nil, Option.pure_def, Option.bind_eq_bind, Option.bind_some, tabOf_cons, flatT, flatE, flatC,
              and_self, and_true, true_and, implies_true, forall_const, not_true_eq_false, not_false_eq_true, false_implies, List.take_succ_cons, List.drop_succ_cons,
              List.take_zero, List.drop_zero, Bool.not_true, Bool.not_false, beq_self_eq_true, decide_true, decide_false, eq_self, Int.reduceEq, Int.reduceLE, Int.reduceLT,
              Bool.not_not, Bool.true_or, Bool.or_true, Bool.false_or, Bool.or_false, if_true, if_false, List.getElem?_nil, Kl_normal, Kl_exit, Kl_ret, fc52_0, fc52_1, fc52_2,
              fc52_3, fc52_4, fc52_5, fc52_6, fc52_7, fc52_8, fc52_9, fc52_10, fc52_11, fc52_12, fc52_13, fc52_14, fc52_15, fc52_16, fc52_17, fc52_18, fc52_19, fc52_20, fc52_21,
              fc52_22, fc52_23, fc52_24, fc52_25, cast_lit, toNat_lit, Int.reduceAdd, Int.reduceSub, Int.reduceMul, Int.reduceNeg, Int.reducePow, Nat.reducePow, Int.reduceToNat,
              Nat.reduceSub, Nat.mul_one, Int.toNat_zero, prod_eta, List.nil_append, List.cons_append, List.append_nil, Int.le_refl, Nat.le_refl, true_implies, take_all, vconv, vmm,
              vidxA, viaddrA, iaddr_sl, iaddr_lsl, getE, vfield, vlen, fillC, fillE, List.replicate, elemsOf, List.length_map, f2iK_eq, bits_i64, bits_i32, bits_u64, bits_u32,
              bits_u8, e_mov, g_mov, e_bin, g_bin, e_un, g_un, e_conv, g_conv, e_call, g_call, g_math_Sqrt, g_abs, dF32_map, dF64_map, dI64_map, dU8_map, dBool_map, dStr_map, decL,
              dF32, dF64, dI64, dU8, dBool, dStr]))
    all_goals (try simp only [*, m_impl_wideAngle, v_impl_wideAngle_0, v_impl_wideAngle_1, v_impl_wideAngle_2, v_impl_wideAngle_3, v_impl_wideAngle_4, v_impl_wideAngle_5, v_impl_wideAngle_6, v_impl_wideAngle_7, v_impl_wideAngle_8, v_impl_wideAngle_9, v_impl_wideAngle_10, v_impl_wideAngle_11, v_impl_wideAngle_12, v_impl_wideAngle_13, Bool.and_true, Bool.true_and, Bool.and_false, Bool.false_and, Bool.or_true, Bool.true_or, Bool.or_false, Bool.false_or, Bool.not_true, Bool.not_false, Bool.false_eq_true, if_true, if_false, reduceIte, decide_true, decide_false])
    all_goals (try (simp_all; done))
  · cases h
def m_impl_AngleTurns (x0 : Nat) (x1 : Nat) : Nat := (if (m_impl_IsFinite x1) = true then (if (m_impl_IsFinite x0) = true then (if (feq .f32 x1 0) = true then (if (feq .f32 x0 0) =
      true then 0 else (narrow (m_impl_wideAngle (widen x0) (widen x1)))) else (narrow (m_impl_wideAngle (widen x0) (widen x1)))) else (m_impl_notNumber)) else (m_impl_notNumber))
def p_impl_AngleTurns (x0 : Nat) (x1 : Nat) : Bool := (if (m_impl_IsFinite x1) = true then (if (m_impl_IsFinite x0) = true then (if (feq .f32 x1 0) = true then ((feq .f32 x0 0) ||
      (narrowOk (m_impl_wideAngle (widen x0) (widen x1)))) else (narrowOk (m_impl_wideAngle (widen x0) (widen x1)))) else (p_impl_notNumber)) else (p_impl_notNumber))
def g_impl_AngleTurns : List AV → Option AV
  | [.flt .f32 y0, .flt .f32 y1] => if p_impl_AngleTurns y0 y1 = true then some (.flt .f32 (m_impl_AngleTurns y0 y1)) else none
  | _ => none
def ic56 : ICode := (.seq (.reg [⟨(some 4), none, (.mov (.c (.flt .f32 0)))⟩] [0, 1]) (.seq (.seq (.reg [⟨(some 5), none, (.mov (.t 1))⟩, ⟨(some 6), none, (.call (.fn 51) [(.t 5)]
      [])⟩, ⟨(some 7), none, (.un .not (.t 6))⟩, ⟨(some 8), none, (.mov (.t 7))⟩, ⟨(some 9), (some (8, false)), (.mov (.t 0))⟩, ⟨(some 10), (some (8, false)), (.call (.fn 51) [(.t
      9)] [])⟩, ⟨(some 11), (some (8, false)), (.un .not (.t 10))⟩, ⟨(some 12), none, (.pick (.t 8) (.c (.bool true)) (.t 11))⟩] [0, 1, 12]) (.cond (.t 12) (.seq (.reg [⟨(some 13),
      none, (.call (.fn 77) [] [])⟩, ⟨(some 4), none, (.mov (.t 13))⟩] [4]) .ret) .skip)) (.seq (.seq (.reg [⟨(some 14), none, (.mov (.t 1))⟩, ⟨(some 15), none, (.bin .eql false (.t
      14) (.c (.flt .f32 0)))⟩, ⟨(some 16), none, (.mov (.t 15))⟩, ⟨(some 17), (some (16, true)), (.mov (.t 0))⟩, ⟨(some 18), (some (16, true)), (.bin .eql false (.t 17) (.c (.flt
      .f32 0)))⟩, ⟨(some 19), none, (.pick (.t 16) (.t 18) (.c (.bool false)))⟩] [0, 1, 19]) (.cond (.t 19) (.seq (.reg [⟨(some 4), none, (.mov (.c (.flt .f32 0)))⟩] [4]) .ret)
      .skip)) (.seq (.reg [⟨(some 20), none, (.mov (.t 0))⟩, ⟨(some 21), none, (.conv (.flt .f64) (.t 20))⟩, ⟨(some 22), none, (.mov (.t 1))⟩, ⟨(some 23), none, (.conv (.flt .f64)
      (.t 22))⟩, ⟨(some 24), none, (.call (.fn 52) [(.t 21), (.t 23)] [])⟩, ⟨(some 25), none, (.conv (.flt .f32) (.t 24))⟩, ⟨(some 4), none, (.mov (.t 25))⟩] [4]) .ret))))
def cp56 : CP := { n := 26, kp := [[0, 1], [0, 1, 12], [4], [0, 1, 19], [4], [4]] }
theorem fc56_0 : IntKind.wrap .i64 (-1) = (-1) := by decide
theorem fc56_1 : IntKind.wrap .i64 0 = 0 := by decide
theorem fc56_2 : IntKind.wrap .i64 1 = 1 := by decide
theorem fc56_3 : IntKind.wrap .i64 10 = 10 := by decide
theorem fc56_4 : IntKind.wrap .i64 11 = 11 := by decide
theorem fc56_5 : IntKind.wrap .i64 110 = 110 := by decide
theorem fc56_6 : IntKind.wrap .i64 12 = 12 := by decide
theorem fc56_7 : IntKind.wrap .i64 13 = 13 := by decide
theorem fc56_8 : IntKind.wrap .i64 14 = 14 := by decide
theorem fc56_9 : IntKind.wrap .i64 15 = 15 := by decide
theorem fc56_10 : IntKind.wrap .i64 156 = 156 := by decide
theorem fc56_11 : IntKind.wrap .i64 16 = 16 := by decide
theorem fc56_12 : IntKind.wrap .i64 17 = 17 := by decide
theorem fc56_13 : IntKind.wrap .i64 2 = 2 := by decide
theorem fc56_14 : IntKind.wrap .i64 20 = 20 := by decide
theorem fc56_15 : IntKind.wrap .i64 210 = 210 := by decide
theorem fc56_16 : IntKind.wrap .i64 272 = 272 := by decide
theorem fc56_17 : IntKind.wrap .i64 3 = 3 := by decide
theorem fc56_18 : IntKind.wrap .i64 4 = 4 := by decide
theorem fc56_19 : IntKind.wrap .i64 42 = 42 := by decide
theorem fc56_20 : IntKind.wrap .i64 5 = 5 := by decide
theorem fc56_21 : IntKind.wrap .i64 6 = 6 := by decide
theorem fc56_22 : IntKind.wrap .i64 7 = 7 := by decide
theorem fc56_23 : IntKind.wrap .i64 72 = 72 := by decide
theorem fc56_24 : IntKind.wrap .i64 8 = 8 := by decide
theorem fc56_25 : IntKind.wrap .i64 9 = 9 := by decide
theorem s56 : ∀ vs r, g_impl_AngleTurns vs = some r → Says Try.prog 56 vs r := by
  intro vs r h
  unfold g_impl_AngleTurns at h
  split at h
  · rename_i y0 y1
    split at h
    · rename_i hp
      cases h
      refine spec_of (tab := tabOf [(51, g_impl_IsFinite), (52, g_impl_wideAngle), (77, g_impl_notNumber)]) (cp := cp56) (ic := ic56) (rvl := [(.t 4)]) hm (tabOk_cons s51 (tabOk_cons s52 (tabOk_cons s77 tabOk_nil))) Try.func56 rfl rfl rfl (by kernel_rfl) rfl (Nat.le_of_ble_eq_true rfl) ?_
      show eA _ _ _ _
      unfold ic56
      simp only [p_impl_AngleTurns, Bool.and_eq_true, Bool.or_eq_true, decide_eq_true_eq, Bool.not_eq_true', decide_eq_false_iff_not] at hp
      simp only [
          hp, eA_seq, eA_reg, eA_ret, eA_skip, eA_cond, eA_block, eA_exit, eCc_true, eCc_false, Kq_normal, Kq_ret, Kq_exit, Kb_normal, Kb_exit, Kb_ret, Kreg_eq, eI_nil, bindSt_some,
                bindSt_none, bindSt_ite, eR_eq, eGI_tt, eGI_ff, eGI_tf, eGI_ft, eop, vop, ev_t, ev_c, ev_f, Option.map, put_some, put_none, set_eq, setH_eq, get_eq, hp_eq,
                keep_cons, keep_nil, lk_cons, lk_nil, startSt, envOf, reduceIte, Nat.reduceEqDiff, Nat.reduceAdd, Nat.zero_add, Nat.add_zero, Nat.reduceMul, Nat.reduceLT,
                Nat.reduceLeDiff, bop, uop, intop, fltop, convop, true_or, or_true, Bool.false_eq_true, ret_ok, ret_normal, outV, rvV, rvs, ex_some, pureV, pureX, pureX.pure1',
                pure1, Bool.true_and, Bool.false_and, Bool.and_true, Bool.and_false, Option.isNone_none, AV.cells, AV.one, storable, laid, refless, refless1, List.all_cons,
                List.all_nil, List.length_cons, List.length_nil, List.getElem?_cons_zero, List.getElem?_cons_succ, List.set_cons_zero, List.set_cons_succ, List.set_nil,
                List.map_cons, List.map_nil, vload, loadC, storeC, vnil, vfaddr, vextract, callTo, List.mapM_cons, List.mapM_nil, Option.pure_def, Option.bind_eq_bind,
                Option.bind_some, tabOf_cons, flatT, flatE, flatC, and_self, and_true, true_and, implies_true, forall_const, not_true_eq_false, not_false_eq_true, false_implies,
                List.take_succ_cons, List.drop_succ_cons, List.take_zero, List.drop_zero, Bool.not_true, Bool.not_false, beq_self_eq_true, decide_true, decide_false, eq_self,
                Int.reduceEq, Int.reduceLE, Int.reduceLT, Bool.not_not, Bool.true_or, Bool.or_true, Bool.false_or, Bool.or_false, if_true, if_false, List.getElem?_nil, Kl_normal,
                Kl_exit, Kl_ret, fc56_0, fc56_1, fc56_2, fc56_3, fc56_4, fc56_5, fc56_6, fc56_7, fc56_8, fc56_9, fc56_10, fc56_11, fc56_12, fc56_13, fc56_14, fc56_15, fc56_16,
                fc56_17, fc56_18, fc56_19, fc56_20, fc56_21, fc56_22, fc56_23, fc56_24, fc56_25, cast_lit, toNat_lit, Int.reduceAdd, Int.reduceSub, Int.reduceMul, Int.reduceNeg,
                Int.reducePow, Nat.reducePow, Int.reduceToNat, Nat.reduceSub, Nat.mul_one, Int.toNat_zero, prod_eta, List.nil_append, List.cons_append, List.append_nil, Int.le_refl,
                Nat.le_refl, true_implies, take_all, vconv, vmm, vidxA, viaddrA, iaddr_sl, iaddr_lsl, getE, vfield, vlen, fillC, fillE, List.replicate, elemsOf, List.length_map,
                f2iK_eq, bits_i64, bits_i32, bits_u64, bits_u32, bits_u8, e_mov, g_mov, e_pick, g_pick, e_bin, g_bin, e_un, g_un, e_conv, g_conv, e_call, g_call, g_impl_IsFinite,
                g_impl_wideAngle, g_impl_notNumber, dF32_map, dF64_map, dI64_map, dU8_map, dBool_map, dStr_map, decL, dF32, dF64, dI64, dU8, dBool, dStr, ↓b_pick, ePk_true,
                ePk_false]
      repeat' (first
        | ((first | (refine eGI_of (fun h => ?_) (fun h => ?_)) | (refine eCc_of (fun h => ?_) (fun h => ?_)) | (refine ePk_of (fun h => ?_) (fun h => ?_))) <;> (try simp only [Bool.not_eq_true', Bool.not_eq_false'] at h) <;> (try simp only [h, reduceCtorEq, Bool.not_eq_true', decide_eq_false_iff_not, Bool.not_true, Bool.not_false, Bool.false_or, Bool.true_or, Bool.true_and, Bool.false_and, Bool.and_eq_true, Bool.or_eq_true, if_true, if_false, reduceIte, Bool.false_eq_true, and_true, true_and, false_or, or_false, decide_eq_true_eq, not_false_eq_true, not_true_eq_false] at hp) <;> (try (have h2 := h; simp only [decide_eq_true_eq, decide_eq_false_iff_not] at h2; (first | (replace h2 := eq_false h2) | (replace h2 := eq_true h2)); simp only [h2, if_true, if_false, false_or, true_or, or_true, or_false, and_true, true_and, not_false_eq_true, not_true_eq_false] at hp)) <;> simp only [h,
          hp, eA_seq, eA_reg, eA_ret, eA_skip, eA_cond, eA_block, eA_exit, eCc_true, eCc_false, Kq_normal, Kq_ret, Kq_exit, Kb_normal, Kb_exit, Kb_ret, Kreg_eq, eI_nil, bindSt_some,
                bindSt_none, bindSt_ite, eR_eq, eGI_tt, eGI_ff, eGI_tf, eGI_ft, eop, vop, ev_t, ev_c, ev_f, Option.map, put_some, put_none, set_eq, setH_eq, get_eq, hp_eq,
                keep_cons, keep_nil, lk_cons, lk_nil, startSt, envOf, reduceIte, Nat.reduceEqDiff, Nat.reduceAdd, Nat.zero_add, Nat.add_zero, Nat.reduceMul, Nat.reduceLT,
                Nat.reduceLeDiff, bop, uop, intop, fltop, convop, true_or, or_true, Bool.false_eq_true, ret_ok, ret_normal, outV, rvV, rvs, ex_some, pureV, pureX, pureX.pure1',
                pure1, Bool.true_and, Bool.false_and, Bool.and_true, Bool.and_false, Option.isNone_none, AV.cells, AV.one, storable, laid, refless, refless1, List.all_cons,
                List.all_nil, List.length_cons, List.length_nil, List.getElem?_cons_zero, List.getElem?_cons_succ, List.set_cons_zero, List.set_cons_succ, List.set_nil,
                List.map_cons, List.map_nil, vload, loadC, storeC, vnil, vfaddr, vextract, callTo, List.mapM_cons, List.mapM_nil, Option.pure_def, Option.bind_eq_bind,
                Option.bind_some, tabOf_cons, flatT, flatE, flatC, and_self, and_true, true_and, implies_true, forall_const, not_true_eq_false, not_false_eq_true, false_implies,
                List.take_succ_cons, List.drop_succ_cons, List.take_zero, List.drop_zero, Bool.not_true, Bool.not_false, beq_self_eq_true, decide_true, decide_false, eq_self,
                Int.reduceEq, Int.reduceLE, Int.reduceLT, Bool.not_not, Bool.true_or, Bool.or_true, Bool.false_or, Bool.or_false, if_true, if_false, List.getElem?_nil, Kl_normal,
                Kl_exit, Kl_ret, fc56_0, fc56_1, fc56_2, fc56_3, fc56_4, fc56_5, fc56_6, fc56_7, fc56_8, fc56_9, fc56_10, fc56_11, fc56_12, fc56_13, fc56_14, fc56_15, fc56_16,
                fc56_17, fc56_18, fc56_19, fc56_20, fc56_21, fc56_22, fc56_23, fc56_24, fc56_25, cast_lit, toNat_lit, Int.reduceAdd, Int.reduceSub, Int.reduceMul, Int.reduceNeg,
                Int.reducePow, Nat.reducePow, Int.reduceToNat, Nat.reduceSub, Nat.mul_one, Int.toNat_zero, prod_eta, List.nil_append, List.cons_append, List.append_nil, Int.le_refl,
                Nat.le_refl, true_implies, take_all, vconv, vmm, vidxA, viaddrA, iaddr_sl, iaddr_lsl, getE, vfield, vlen, fillC, fillE, List.replicate, elemsOf, List.length_map,
                f2iK_eq, bits_i64, bits_i32, bits_u64, bits_u32, bits_u8, e_mov, g_mov, e_pick, g_pick, e_bin, g_bin, e_un, g_un, e_conv, g_conv, e_call, g_call, g_impl_IsFinite,
                g_impl_wideAngle, g_impl_notNumber, dF32_map, dF64_map, dI64_map, dU8_map, dBool_map, dStr_map, decL, dF32, dF64, dI64, dU8, dBool, dStr, ↓b_pick, ePk_true,
                ePk_false]))
      all_goals (try simp only [*, m_impl_AngleTurns, Bool.and_true, Bool.true_and, Bool.and_false, Bool.false_and, Bool.or_true, Bool.true_or, Bool.or_false, Bool.false_or, Bool.not_true, Bool.not_false, Bool.false_eq_true, if_true, if_false, reduceIte, decide_true, decide_false])
      all_goals (try (simp_all; done))
    · cases h
  · cases h
def m_impl_AngleOf (x0 : (Nat × Nat × Nat × Nat)) : Nat := (fmul .f32 1073741824 (m_impl_AngleTurns (m_impl_LongOf (m_impl_Turn_vector x0)) (m_impl_size x0.1)))
def p_impl_AngleOf (x0 : (Nat × Nat × Nat × Nat)) : Bool := ((p_impl_LongOf (m_impl_Turn_vector x0)) && ((p_impl_size x0.1) && (p_impl_AngleTurns (m_impl_LongOf (m_impl_Turn_vector
      x0)) (m_impl_size x0.1))))
def g_impl_AngleOf : List AV → Option AV
  | [.agg [.flt .f32 y0, .flt .f32 y1, .flt .f32 y2, .flt .f32 y3]] => if p_impl_AngleOf (y0, y1, y2, y3) = true then some (.flt .f32
      (m_impl_AngleOf (y0, y1, y2, y3))) else none
  | _ => none
def ic67 : ICode := (.seq (.reg [⟨(some 1), none, (.box 4 (.t 0))⟩, ⟨(some 2), none, (.mov (.c (.flt .f32 0)))⟩] [1]) (.seq (.reg [⟨(some 3), none, (.load (some 4) (.t 1))⟩, ⟨(some
      4), none, (.call (.fn 57) [(.t 3)] [])⟩, ⟨(some 5), none, (.call (.fn 42) [(.t 4)] [])⟩, ⟨(some 6), none, (.faddr 0 (.t 1))⟩, ⟨(some 7), none, (.load none (.t 6))⟩, ⟨(some 8),
      none, (.call (.fn 86) [(.t 7)] [])⟩, ⟨(some 9), none, (.call (.fn 56) [(.t 5), (.t 8)] [])⟩, ⟨(some 10), none, (.bin .mul false (.c (.flt .f32 1073741824)) (.t 9))⟩, ⟨(some
      2), none, (.mov (.t 10))⟩] [2]) .ret))
def cp67 : CP := { n := 11, kp := [[1], [2]] }
theorem fc67_0 : IntKind.wrap .i64 (-1) = (-1) := by decide
theorem fc67_1 : IntKind.wrap .i64 0 = 0 := by decide
theorem fc67_2 : IntKind.wrap .i64 1 = 1 := by decide
theorem fc67_3 : IntKind.wrap .i64 10 = 10 := by decide
theorem fc67_4 : IntKind.wrap .i64 11 = 11 := by decide
theorem fc67_5 : IntKind.wrap .i64 110 = 110 := by decide
theorem fc67_6 : IntKind.wrap .i64 12 = 12 := by decide
theorem fc67_7 : IntKind.wrap .i64 13 = 13 := by decide
theorem fc67_8 : IntKind.wrap .i64 14 = 14 := by decide
theorem fc67_9 : IntKind.wrap .i64 15 = 15 := by decide
theorem fc67_10 : IntKind.wrap .i64 156 = 156 := by decide
theorem fc67_11 : IntKind.wrap .i64 16 = 16 := by decide
theorem fc67_12 : IntKind.wrap .i64 17 = 17 := by decide
theorem fc67_13 : IntKind.wrap .i64 2 = 2 := by decide
theorem fc67_14 : IntKind.wrap .i64 20 = 20 := by decide
theorem fc67_15 : IntKind.wrap .i64 210 = 210 := by decide
theorem fc67_16 : IntKind.wrap .i64 272 = 272 := by decide
theorem fc67_17 : IntKind.wrap .i64 3 = 3 := by decide
theorem fc67_18 : IntKind.wrap .i64 4 = 4 := by decide
theorem fc67_19 : IntKind.wrap .i64 42 = 42 := by decide
theorem fc67_20 : IntKind.wrap .i64 5 = 5 := by decide
theorem fc67_21 : IntKind.wrap .i64 6 = 6 := by decide
theorem fc67_22 : IntKind.wrap .i64 7 = 7 := by decide
theorem fc67_23 : IntKind.wrap .i64 72 = 72 := by decide
theorem fc67_24 : IntKind.wrap .i64 8 = 8 := by decide
theorem fc67_25 : IntKind.wrap .i64 9 = 9 := by decide
theorem s67 : ∀ vs r, g_impl_AngleOf vs = some r → Says Try.prog 67 vs r := by
  intro vs r h
  unfold g_impl_AngleOf at h
  split at h
  · rename_i y0 y1 y2 y3
    split at h
    · rename_i hp
      cases h
      refine spec_of (tab := tabOf [(42, g_impl_LongOf), (56, g_impl_AngleTurns), (57, g_impl_Turn_vector), (86, g_impl_size)]) (cp := cp67) (ic := ic67) (rvl := [(.t 2)]) hm (tabOk_cons s42 (tabOk_cons s56 (tabOk_cons s57 (tabOk_cons s86 tabOk_nil)))) Try.func67 rfl rfl rfl (by kernel_rfl) rfl (Nat.le_of_ble_eq_true rfl) ?_
      show eA _ _ _ _
      unfold ic67
      simp only [p_impl_AngleOf, Bool.and_eq_true, Bool.or_eq_true, decide_eq_true_eq, Bool.not_eq_true', decide_eq_false_iff_not] at hp
      simp only [
          hp, eA_seq, eA_reg, eA_ret, eA_skip, eA_cond, eA_block, eA_exit, eCc_true, eCc_false, Kq_normal, Kq_ret, Kq_exit, Kb_normal, Kb_exit, Kb_ret, Kreg_eq, eI_nil, bindSt_some,
                bindSt_none, bindSt_ite, eR_eq, eGI_tt, eGI_ff, eGI_tf, eGI_ft, eop, vop, ev_t, ev_c, ev_f, Option.map, put_some, put_none, set_eq, setH_eq, get_eq, hp_eq,
                keep_cons, keep_nil, lk_cons, lk_nil, startSt, envOf, reduceIte, Nat.reduceEqDiff, Nat.reduceAdd, Nat.zero_add, Nat.add_zero, Nat.reduceMul, Nat.reduceLT,
                Nat.reduceLeDiff, bop, uop, intop, fltop, convop, true_or, or_true, Bool.false_eq_true, ret_ok, ret_normal, outV, rvV, rvs, ex_some, pureV, pureX, pureX.pure1',
                pure1, Bool.true_and, Bool.false_and, Bool.and_true, Bool.and_false, Option.isNone_none, AV.cells, AV.one, storable, laid, refless, refless1, List.all_cons,
                List.all_nil, List.length_cons, List.length_nil, List.getElem?_cons_zero, List.getElem?_cons_succ, List.set_cons_zero, List.set_cons_succ, List.set_nil,
                List.map_cons, List.map_nil, vload, loadC, storeC, vnil, vfaddr, vextract, callTo, List.mapM_cons, List.mapM_nil, Option.pure_def, Option.bind_eq_bind,
                Option.bind_some, tabOf_cons, flatT, flatE, flatC, and_self, and_true, true_and, implies_true, forall_const, not_true_eq_false, not_false_eq_true, false_implies,
                List.take_succ_cons, List.drop_succ_cons, List.take_zero, List.drop_zero, Bool.not_true, Bool.not_false, beq_self_eq_true, decide_true, decide_false, eq_self,
                Int.reduceEq, Int.reduceLE, Int.reduceLT, Bool.not_not, Bool.true_or, Bool.or_true, Bool.false_or, Bool.or_false, if_true, if_false, List.getElem?_nil, Kl_normal,
                Kl_exit, Kl_ret, fc67_0, fc67_1, fc67_2, fc67_3, fc67_4, fc67_5, fc67_6, fc67_7, fc67_8, fc67_9, fc67_10, fc67_11, fc67_12, fc67_13, fc67_14, fc67_15, fc67_16,
                fc67_17, fc67_18, fc67_19, fc67_20, fc67_21, fc67_22, fc67_23, fc67_24, fc67_25, cast_lit, toNat_lit, Int.reduceAdd, Int.reduceSub, Int.reduceMul, Int.reduceNeg,
                Int.reducePow, Nat.reducePow, Int.reduceToNat, Nat.reduceSub, Nat.mul_one, Int.toNat_zero, prod_eta, List.nil_append, List.cons_append, List.append_nil, Int.le_refl,
                Nat.le_refl, true_implies, take_all, vconv, vmm, vidxA, viaddrA, iaddr_sl, iaddr_lsl, getE, vfield, vlen, fillC, fillE, List.replicate, elemsOf, List.length_map,
                f2iK_eq, bits_i64, bits_i32, bits_u64, bits_u32, bits_u8, e_mov, g_mov, e_box, g_box, e_load, g_load, e_bin, g_bin, e_faddr, g_faddr, e_call, g_call, g_impl_LongOf,
                g_impl_AngleTurns, g_impl_Turn_vector, g_impl_size, dF32_map, dF64_map, dI64_map, dU8_map, dBool_map, dStr_map, decL, dF32, dF64, dI64, dU8, dBool, dStr]
      repeat' (first
        | ((first | (refine eGI_of (fun h => ?_) (fun h => ?_)) | (refine eCc_of (fun h => ?_) (fun h => ?_))) <;> (try simp only [Bool.not_eq_true', Bool.not_eq_false'] at h) <;> (try simp only [h, reduceCtorEq, Bool.not_eq_true', decide_eq_false_iff_not, Bool.not_true, Bool.not_false, Bool.false_or, Bool.true_or, Bool.true_and, Bool.false_and, Bool.and_eq_true, Bool.or_eq_true, if_true, if_false, reduceIte, Bool.false_eq_true, and_true, true_and, false_or, or_false, decide_eq_true_eq, not_false_eq_true, not_true_eq_false] at hp) <;> (try (have h2 := h; simp only [decide_eq_true_eq, decide_eq_false_iff_not] at h2; (first | (replace h2 := eq_false h2) | (replace h2 := eq_true h2)); simp only [h2, if_true, if_false, false_or, true_or, or_true, or_false, and_true, true_and, not_false_eq_true, not_true_eq_false] at hp)) <;> simp only [h,
          hp, eA_seq, eA_reg, eA_ret, eA_skip, eA_cond, eA_block, eA_exit, eCc_true, eCc_false, Kq_normal, Kq_ret, Kq_exit, Kb_normal, Kb_exit, Kb_ret, Kreg_eq, eI_nil, bindSt_some,
                bindSt_none, bindSt_ite, eR_eq, eGI_tt, eGI_ff, eGI_tf, eGI_ft, eop, vop, ev_t, ev_c, ev_f, Option.map, put_some, put_none, set_eq, setH_eq, get_eq, hp_eq,
                keep_cons, keep_nil, lk_cons, lk_nil, startSt, envOf, reduceIte, Nat.reduceEqDiff, Nat.reduceAdd, Nat.zero_add, Nat.add_zero, Nat.reduceMul, Nat.reduceLT,
                Nat.reduceLeDiff, bop, uop, intop, fltop, convop, true_or, or_true, Bool.false_eq_true, ret_ok, ret_normal, outV, rvV, rvs, ex_some, pureV, pureX, pureX.pure1',
                pure1, Bool.true_and, Bool.false_and, Bool.and_true, Bool.and_false, Option.isNone_none, AV.cells, AV.one, storable, laid, refless, refless1, List.all_cons,
                List.all_nil, List.length_cons, List.length_nil, List.getElem?_cons_zero, List.getElem?_cons_succ, List.set_cons_zero, List.set_cons_succ, List.set_nil,
                List.map_cons, List.map_nil, vload, loadC, storeC, vnil, vfaddr, vextract, callTo, List.mapM_cons, List.mapM_nil, Option.pure_def, Option.bind_eq_bind,
                Option.bind_some, tabOf_cons, flatT, flatE, flatC, and_self, and_true, true_and, implies_true, forall_const, not_true_eq_false, not_false_eq_true, false_implies,
                List.take_succ_cons, List.drop_succ_cons, List.take_zero, List.drop_zero, Bool.not_true, Bool.not_false, beq_self_eq_true, decide_true, decide_false, eq_self,
                Int.reduceEq, Int.reduceLE, Int.reduceLT, Bool.not_not, Bool.true_or, Bool.or_true, Bool.false_or, Bool.or_false, if_true, if_false, List.getElem?_nil, Kl_normal,
                Kl_exit, Kl_ret, fc67_0, fc67_1, fc67_2, fc67_3, fc67_4, fc67_5, fc67_6, fc67_7, fc67_8, fc67_9, fc67_10, fc67_11, fc67_12, fc67_13, fc67_14, fc67_15, fc67_16,
                fc67_17, fc67_18, fc67_19, fc67_20, fc67_21, fc67_22, fc67_23, fc67_24, fc67_25, cast_lit, toNat_lit, Int.reduceAdd, Int.reduceSub, Int.reduceMul, Int.reduceNeg,
                Int.reducePow, Nat.reducePow, Int.reduceToNat, Nat.reduceSub, Nat.mul_one, Int.toNat_zero, prod_eta, List.nil_append, List.cons_append, List.append_nil, Int.le_refl,
                Nat.le_refl, true_implies, take_all, vconv, vmm, vidxA, viaddrA, iaddr_sl, iaddr_lsl, getE, vfield, vlen, fillC, fillE, List.replicate, elemsOf, List.length_map,
                f2iK_eq, bits_i64, bits_i32, bits_u64, bits_u32, bits_u8, e_mov, g_mov, e_box, g_box, e_load, g_load, e_bin, g_bin, e_faddr, g_faddr, e_call, g_call, g_impl_LongOf,
                g_impl_AngleTurns, g_impl_Turn_vector, g_impl_size, dF32_map, dF64_map, dI64_map, dU8_map, dBool_map, dStr_map, decL, dF32, dF64, dI64, dU8, dBool, dStr]))
      all_goals (try simp only [*, m_impl_AngleOf, Bool.and_true, Bool.true_and, Bool.and_false, Bool.false_and, Bool.or_true, Bool.true_or, Bool.or_false, Bool.false_or, Bool.not_true, Bool.not_false, Bool.false_eq_true, if_true, if_false, reduceIte, decide_true, decide_false])
      all_goals (try (simp_all; done))
    · cases h
  · cases h
def m_impl_Turn_opposite (x0 : (Nat × Nat × Nat × Nat)) : (Nat × Nat × Nat × Nat) := ((fneg .f32 x0.1), (fneg .f32 x0.2.1), (fneg .f32 x0.2.2.1), (fneg .f32 x0.2.2.2))
def g_impl_Turn_opposite : List AV → Option AV
  | [.agg [.flt .f32 y0, .flt .f32 y1, .flt .f32 y2, .flt .f32 y3]] => some (AV.agg [(.flt .f32 (m_impl_Turn_opposite (y0, y1, y2,
      y3)).1), (.flt .f32 (m_impl_Turn_opposite (y0, y1, y2, y3)).2.1), (.flt .f32 (m_impl_Turn_opposite (y0, y1, y2, y3)).2.2.1), (.flt .f32 (m_impl_Turn_opposite (y0, y1, y2,
      y3)).2.2.2)])
  | _ => none
def ic87 : ICode := (.seq (.reg [⟨(some 1), none, (.box 4 (.t 0))⟩, ⟨(some 2), none, (.alloc (.agg [(.flt .f32 0), (.flt .f32 0), (.flt .f32 0), (.flt .f32 0)]))⟩] [1, 2]) (.seq
      (.reg [⟨(some 3), none, (.faddr 0 (.t 1))⟩, ⟨(some 4), none, (.load none (.t 3))⟩, ⟨(some 5), none, (.un .neg (.t 4))⟩, ⟨(some 6), none, (.faddr 1 (.t 1))⟩, ⟨(some 7), none,
      (.load none (.t 6))⟩, ⟨(some 8), none, (.un .neg (.t 7))⟩, ⟨(some 9), none, (.faddr 2 (.t 1))⟩, ⟨(some 10), none, (.load none (.t 9))⟩, ⟨(some 11), none, (.un .neg (.t 10))⟩,
      ⟨(some 12), none, (.faddr 3 (.t 1))⟩, ⟨(some 13), none, (.load none (.t 12))⟩, ⟨(some 14), none, (.un .neg (.t 13))⟩, ⟨(some 15), none, (.build [(.flt .f32 0), (.flt .f32 0),
      (.flt .f32 0), (.flt .f32 0)] [(0, 1, (.t 5)), (1, 1, (.t 8)), (2, 1, (.t 11)), (3, 1, (.t 14))])⟩, ⟨none, none, (.store 4 (.t 2) (.t 15))⟩] [2]) .ret))
def cp87 : CP := { n := 16, kp := [[1, 2], [2]] }
theorem fc87_0 : IntKind.wrap .i64 (-1) = (-1) := by decide
theorem fc87_1 : IntKind.wrap .i64 0 = 0 := by decide
theorem fc87_2 : IntKind.wrap .i64 1 = 1 := by decide
theorem fc87_3 : IntKind.wrap .i64 10 = 10 := by decide
theorem fc87_4 : IntKind.wrap .i64 11 = 11 := by decide
theorem fc87_5 : IntKind.wrap .i64 110 = 110 := by decide
theorem fc87_6 : IntKind.wrap .i64 12 = 12 := by decide
theorem fc87_7 : IntKind.wrap .i64 13 = 13 := by decide
theorem fc87_8 : IntKind.wrap .i64 14 = 14 := by decide
theorem fc87_9 : IntKind.wrap .i64 15 = 15 := by decide
theorem fc87_10 : IntKind.wrap .i64 156 = 156 := by decide
theorem fc87_11 : IntKind.wrap .i64 16 = 16 := by decide
theorem fc87_12 : IntKind.wrap .i64 17 = 17 := by decide
theorem fc87_13 : IntKind.wrap .i64 2 = 2 := by decide
theorem fc87_14 : IntKind.wrap .i64 20 = 20 := by decide
theorem fc87_15 : IntKind.wrap .i64 210 = 210 := by decide
theorem fc87_16 : IntKind.wrap .i64 272 = 272 := by decide
theorem fc87_17 : IntKind.wrap .i64 3 = 3 := by decide
theorem fc87_18 : IntKind.wrap .i64 4 = 4 := by decide
theorem fc87_19 : IntKind.wrap .i64 42 = 42 := by decide
theorem fc87_20 : IntKind.wrap .i64 5 = 5 := by decide
theorem fc87_21 : IntKind.wrap .i64 6 = 6 := by decide
theorem fc87_22 : IntKind.wrap .i64 7 = 7 := by decide
theorem fc87_23 : IntKind.wrap .i64 72 = 72 := by decide
theorem fc87_24 : IntKind.wrap .i64 8 = 8 := by decide
theorem fc87_25 : IntKind.wrap .i64 9 = 9 := by decide
theorem s87 : ∀ vs r, g_impl_Turn_opposite vs = some r → Says Try.prog 87 vs r := by
  intro vs r h
  unfold g_impl_Turn_opposite at h
  split at h
  · rename_i y0 y1 y2 y3
    cases h
    refine spec_of (tab := tabOf []) (cp := cp87) (ic := ic87) (rvl := [(.c 2 (some 4))]) hm tabOk_nil Try.func87 rfl rfl rfl (by kernel_rfl) rfl (Nat.le_of_ble_eq_true rfl) ?_
    show eA _ _ _ _
    unfold ic87
    simp only [
        eA_seq, eA_reg, eA_ret, eA_skip, eA_cond, eA_block, eA_exit, eCc_true, eCc_false, Kq_normal, Kq_ret, Kq_exit, Kb_normal, Kb_exit, Kb_ret, Kreg_eq, eI_nil, bindSt_some,
              bindSt_none, bindSt_ite, eR_eq, eGI_tt, eGI_ff, eGI_tf, eGI_ft, eop, vop, ev_t, ev_c, ev_f, Option.map, put_some, put_none, set_eq, setH_eq, get_eq, hp_eq, keep_cons,
              keep_nil, lk_cons, lk_nil, startSt, envOf, reduceIte, Nat.reduceEqDiff, Nat.reduceAdd, Nat.zero_add, Nat.add_zero, Nat.reduceMul, Nat.reduceLT, Nat.reduceLeDiff, bop,
              uop, intop, fltop, convop, true_or, or_true, Bool.false_eq_true, ret_ok, ret_normal, outV, rvV, rvs, ex_some, pureV, pureX, pureX.pure1', pure1, Bool.true_and,
              Bool.false_and, Bool.and_true, Bool.and_false, Option.isNone_none, AV.cells, AV.one, storable, laid, refless, refless1, List.all_cons, List.all_nil, List.length_cons,
              List.length_nil, List.getElem?_cons_zero, List.getElem?_cons_succ, List.set_cons_zero, List.set_cons_succ, List.set_nil, List.map_cons, List.map_nil, vload, loadC,
              storeC, vnil, vfaddr, vextract, callTo, List.mapM_cons, List.mapM_nil, Option.pure_def, Option.bind_eq_bind, Option.bind_some, tabOf_cons, flatT, flatE, flatC,
              and_self, and_true, true_and, implies_true, forall_const, not_true_eq_false, not_false_eq_true, false_implies, List.take_succ_cons, List.drop_succ_cons,
              List.take_zero, List.drop_zero, Bool.not_true, Bool.not_false, beq_self_eq_true, decide_true, decide_false, eq_self, Int.reduceEq, Int.reduceLE, Int.reduceLT,
              Bool.not_not, Bool.true_or, Bool.or_true, Bool.false_or, Bool.or_false, if_true, if_false, List.getElem?_nil, Kl_normal, Kl_exit, Kl_ret, fc87_0, fc87_1, fc87_2,
              fc87_3, fc87_4, fc87_5, fc87_6, fc87_7, fc87_8, fc87_9, fc87_10, fc87_11, fc87_12, fc87_13, fc87_14, fc87_15, fc87_16, fc87_17, fc87_18, fc87_19, fc87_20, fc87_21,
              fc87_22, fc87_23, fc87_24, fc87_25, cast_lit, toNat_lit, Int.reduceAdd, Int.reduceSub, Int.reduceMul, Int.reduceNeg, Int.reducePow, Nat.reducePow, Int.reduceToNat,
              Nat.reduceSub, Nat.mul_one, Int.toNat_zero, prod_eta, List.nil_append, List.cons_append, List.append_nil, Int.le_refl, Nat.le_refl, true_implies, take_all, vconv, vmm,
              vidxA, viaddrA, iaddr_sl, iaddr_lsl, getE, vfield, vlen, fillC, fillE, List.replicate, elemsOf, List.length_map, f2iK_eq, bits_i64, bits_i32, bits_u64, bits_u32,
              bits_u8, e_alloc, g_alloc, e_box, g_box, e_build, g_build, e_load, g_load, e_store, g_store, e_un, g_un, e_faddr, g_faddr, dF32_map, dF64_map, dI64_map, dU8_map,
              dBool_map, dStr_map, decL, dF32, dF64, dI64, dU8, dBool, dStr]
    repeat' (first
      | ((first | (refine eGI_of (fun h => ?_) (fun h => ?_)) | (refine eCc_of (fun h => ?_) (fun h => ?_))) <;> (try simp only [Bool.not_eq_true', Bool.not_eq_false'] at h) <;> simp only [h,
        eA_seq, eA_reg, eA_ret, eA_skip, eA_cond, eA_block, eA_exit, eCc_true, eCc_false, Kq_normal, Kq_ret, Kq_exit, Kb_normal, Kb_exit, Kb_ret, Kreg_eq, eI_nil, bindSt_some,
              bindSt_none, bindSt_ite, eR_eq, eGI_tt, eGI_ff, eGI_tf, eGI_ft, eop, vop, ev_t, ev_c, ev_f, Option.map, put_some, put_none, set_eq, setH_eq, get_eq, hp_eq, keep_cons,
              keep_nil, lk_cons, lk_nil, startSt, envOf, reduceIte, Nat.reduceEqDiff, Nat.reduceAdd, Nat.zero_add, Nat.add_zero, Nat.reduceMul, Nat.reduceLT, Nat.reduceLeDiff, bop,
              uop, intop, fltop, convop, true_or, or_true, Bool.false_eq_true, ret_ok, ret_normal, outV, rvV, rvs, ex_some, pureV, pureX, pureX.pure1', pure1, Bool.true_and,
              Bool.false_and, Bool.and_true, Bool.and_false, Option.isNone_none, AV.cells, AV.one, storable, laid, refless, refless1, List.all_cons, List.all_nil, List.length_cons,
              List.length_nil, List.getElem?_cons_zero, List.getElem?_cons_succ, List.set_cons_zero, List.set_cons_succ, List.set_nil, List.map_cons, List.map_nil, vload, loadC,
              storeC, vnil, vfaddr, vextract, callTo, List.mapM_cons, List.mapM_nil, Option.pure_def, Option.bind_eq_bind, Option.bind_some, tabOf_cons, flatT, flatE, flatC,
              and_self, and_true, true_and, implies_true, forall_const, not_true_eq_false, not_false_eq_true, false_implies, List.take_succ_cons, List.drop_succ_cons,
              List.take_zero, List.drop_zero, Bool.not_true, Bool.not_false, beq_self_eq_true, decide_true, decide_false, eq_self, Int.reduceEq, Int.reduceLE, Int.reduceLT,
              Bool.not_not, Bool.true_or, Bool.or_true, Bool.false_or, Bool.or_false, if_true, if_false, List.getElem?_nil, Kl_normal, Kl_exit, Kl_ret, fc87_0, fc87_1, fc87_2,
              fc87_3, fc87_4, fc87_5, fc87_6, fc87_7, fc87_8, fc87_9, fc87_10, fc87_11, fc87_12, fc87_13, fc87_14, fc87_15, fc87_16, fc87_17, fc87_18, fc87_19, fc87_20, fc87_21,
              fc87_22, fc87_23, fc87_24, fc87_25, cast_lit, toNat_lit, Int.reduceAdd, Int.reduceSub, Int.reduceMul, Int.reduceNeg, Int.reducePow, Nat.reducePow, Int.reduceToNat,
              Nat.reduceSub, Nat.mul_one, Int.toNat_zero, prod_eta, List.nil_append, List.cons_append, List.append_nil, Int.le_refl, Nat.le_refl, true_implies, take_all, vconv, vmm,
              vidxA, viaddrA, iaddr_sl, iaddr_lsl, getE, vfield, vlen, fillC, fillE, List.replicate, elemsOf, List.length_map, f2iK_eq, bits_i64, bits_i32, bits_u64, bits_u32,
              bits_u8, e_alloc, g_alloc, e_box, g_box, e_build, g_build, e_load, g_load, e_store, g_store, e_un, g_un, e_faddr, g_faddr, dF32_map, dF64_map, dI64_map, dU8_map,
              dBool_map, dStr_map, decL, dF32, dF64, dI64, dU8, dBool, dStr]))
    all_goals (try simp only [*, m_impl_Turn_opposite, Bool.and_true, Bool.true_and, Bool.and_false, Bool.false_and, Bool.or_true, Bool.true_or, Bool.or_false, Bool.false_or, Bool.not_true, Bool.not_false, Bool.false_eq_true, if_true, if_false, reduceIte, decide_true, decide_false])
    all_goals (try (simp_all; done))
  · cases h
def m_impl_Vector_over (x0 : (Nat × Nat × Nat)) (x1 : Nat) : (Nat × Nat × Nat) := ((fdiv .f32 x0.1 x1), (fdiv .f32 x0.2.1 x1), (fdiv .f32 x0.2.2 x1))
def g_impl_Vector_over : List AV → Option AV
  | [.agg [.flt .f32 y0, .flt .f32 y1, .flt .f32 y2], .flt .f32 y3] => some (AV.agg [(.flt .f32 (m_impl_Vector_over (y0, y1, y2) y3).1),
      (.flt .f32 (m_impl_Vector_over (y0, y1, y2) y3).2.1), (.flt .f32 (m_impl_Vector_over (y0, y1, y2) y3).2.2)])
  | _ => none
def ic45 : ICode := (.seq (.reg [⟨(some 2), none, (.box 3 (.t 0))⟩, ⟨(some 4), none, (.alloc (.agg [(.flt .f32 0), (.flt .f32 0), (.flt .f32 0)]))⟩] [1, 2, 4]) (.seq (.reg [⟨(some
      5), none, (.faddr 0 (.t 2))⟩, ⟨(some 6), none, (.load none (.t 5))⟩, ⟨(some 7), none, (.mov (.t 1))⟩, ⟨(some 8), none, (.bin .quo false (.t 6) (.t 7))⟩, ⟨(some 9), none,
      (.faddr 1 (.t 2))⟩, ⟨(some 10), none, (.load none (.t 9))⟩, ⟨(some 11), none, (.mov (.t 1))⟩, ⟨(some 12), none, (.bin .quo false (.t 10) (.t 11))⟩, ⟨(some 13), none, (.faddr 2
      (.t 2))⟩, ⟨(some 14), none, (.load none (.t 13))⟩, ⟨(some 15), none, (.mov (.t 1))⟩, ⟨(some 16), none, (.bin .quo false (.t 14) (.t 15))⟩, ⟨(some 17), none, (.build [(.flt
      .f32 0), (.flt .f32 0), (.flt .f32 0)] [(0, 1, (.t 8)), (1, 1, (.t 12)), (2, 1, (.t 16))])⟩, ⟨none, none, (.store 3 (.t 4) (.t 17))⟩] [4]) .ret))
def cp45 : CP := { n := 18, kp := [[1, 2, 4], [4]] }
theorem fc45_0 : IntKind.wrap .i64 (-1) = (-1) := by decide
theorem fc45_1 : IntKind.wrap .i64 0 = 0 := by decide
theorem fc45_2 : IntKind.wrap .i64 1 = 1 := by decide
theorem fc45_3 : IntKind.wrap .i64 10 = 10 := by decide
theorem fc45_4 : IntKind.wrap .i64 11 = 11 := by decide
theorem fc45_5 : IntKind.wrap .i64 110 = 110 := by decide
theorem fc45_6 : IntKind.wrap .i64 12 = 12 := by decide
theorem fc45_7 : IntKind.wrap .i64 13 = 13 := by decide
theorem fc45_8 : IntKind.wrap .i64 14 = 14 := by decide
theorem fc45_9 : IntKind.wrap .i64 15 = 15 := by decide
theorem fc45_10 : IntKind.wrap .i64 156 = 156 := by decide
theorem fc45_11 : IntKind.wrap .i64 16 = 16 := by decide
theorem fc45_12 : IntKind.wrap .i64 17 = 17 := by decide
theorem fc45_13 : IntKind.wrap .i64 2 = 2 := by decide
theorem fc45_14 : IntKind.wrap .i64 20 = 20 := by decide
theorem fc45_15 : IntKind.wrap .i64 210 = 210 := by decide
theorem fc45_16 : IntKind.wrap .i64 272 = 272 := by decide
theorem fc45_17 : IntKind.wrap .i64 3 = 3 := by decide
theorem fc45_18 : IntKind.wrap .i64 4 = 4 := by decide
theorem fc45_19 : IntKind.wrap .i64 42 = 42 := by decide
theorem fc45_20 : IntKind.wrap .i64 5 = 5 := by decide
theorem fc45_21 : IntKind.wrap .i64 6 = 6 := by decide
theorem fc45_22 : IntKind.wrap .i64 7 = 7 := by decide
theorem fc45_23 : IntKind.wrap .i64 72 = 72 := by decide
theorem fc45_24 : IntKind.wrap .i64 8 = 8 := by decide
theorem fc45_25 : IntKind.wrap .i64 9 = 9 := by decide
theorem s45 : ∀ vs r, g_impl_Vector_over vs = some r → Says Try.prog 45 vs r := by
  intro vs r h
  unfold g_impl_Vector_over at h
  split at h
  · rename_i y0 y1 y2 y3
    cases h
    refine spec_of (tab := tabOf []) (cp := cp45) (ic := ic45) (rvl := [(.c 4 (some 3))]) hm tabOk_nil Try.func45 rfl rfl rfl (by kernel_rfl) rfl (Nat.le_of_ble_eq_true rfl) ?_
    show eA _ _ _ _
    unfold ic45
    simp only [
        eA_seq, eA_reg, eA_ret, eA_skip, eA_cond, eA_block, eA_exit, eCc_true, eCc_false, Kq_normal, Kq_ret, Kq_exit, Kb_normal, Kb_exit, Kb_ret, Kreg_eq, eI_nil, bindSt_some,
              bindSt_none, bindSt_ite, eR_eq, eGI_tt, eGI_ff, eGI_tf, eGI_ft, eop, vop, ev_t, ev_c, ev_f, Option.map, put_some, put_none, set_eq, setH_eq, get_eq, hp_eq, keep_cons,
              keep_nil, lk_cons, lk_nil, startSt, envOf, reduceIte, Nat.reduceEqDiff, Nat.reduceAdd, Nat.zero_add, Nat.add_zero, Nat.reduceMul, Nat.reduceLT, Nat.reduceLeDiff, bop,
              uop, intop, fltop, convop, true_or, or_true, Bool.false_eq_true, ret_ok, ret_normal, outV, rvV, rvs, ex_some, pureV, pureX, pureX.pure1', pure1, Bool.true_and,
              Bool.false_and, Bool.and_true, Bool.and_false, Option.isNone_none, AV.cells, AV.one, storable, laid, refless, refless1, List.all_cons, List.all_nil, List.length_cons,
              List.length_nil, List.getElem?_cons_zero, List.getElem?_cons_succ, List.set_cons_zero, List.set_cons_succ, List.set_nil, List.map_cons, List.map_nil, vload, loadC,
              storeC, vnil, vfaddr, vextract, callTo, List.mapM_cons, List.mapM_nil, Option.pure_def, Option.bind_eq_bind, Option.bind_some, tabOf_cons, flatT, flatE, flatC,
              and_self, and_true, true_and, implies_true, forall_const, not_true_eq_false, not_false_eq_true, false_implies, List.take_succ_cons, List.drop_succ_cons,
              List.take_zero, List.drop_zero, Bool.not_true, Bool.not_false, beq_self_eq_true, decide_true, decide_false, eq_self, Int.reduceEq, Int.reduceLE, Int.reduceLT,
              Bool.not_not, Bool.true_or, Bool.or_true, Bool.false_or, Bool.or_false, if_true, if_false, List.getElem?_nil, Kl_normal, Kl_exit, Kl_ret, fc45_0, fc45_1, fc45_2,
              fc45_3, fc45_4, fc45_5, fc45_6, fc45_7, fc45_8, fc45_9, fc45_10, fc45_11, fc45_12, fc45_13, fc45_14, fc45_15, fc45_16, fc45_17, fc45_18, fc45_19, fc45_20, fc45_21,
              fc45_22, fc45_23, fc45_24, fc45_25, cast_lit, toNat_lit, Int.reduceAdd, Int.reduceSub, Int.reduceMul, Int.reduceNeg, Int.reducePow, Nat.reducePow, Int.reduceToNat,
              Nat.reduceSub, Nat.mul_one, Int.toNat_zero, prod_eta, List.nil_append, List.cons_append, List.append_nil, Int.le_refl, Nat.le_refl, true_implies, take_all, vconv, vmm,
              vidxA, viaddrA, iaddr_sl, iaddr_lsl, getE, vfield, vlen, fillC, fillE, List.replicate, elemsOf, List.length_map, f2iK_eq, bits_i64, bits_i32, bits_u64, bits_u32,
              bits_u8, e_mov, g_mov, e_alloc, g_alloc, e_box, g_box, e_build, g_build, e_load, g_load, e_store, g_store, e_bin, g_bin, e_faddr, g_faddr, dF32_map, dF64_map,
              dI64_map, dU8_map, dBool_map, dStr_map, decL, dF32, dF64, dI64, dU8, dBool, dStr]
    repeat' (first
      | ((first | (refine eGI_of (fun h => ?_) (fun h => ?_)) | (refine eCc_of (fun h => ?_) (fun h => ?_))) <;> (try simp only [Bool.not_eq_true', Bool.not_eq_false'] at h) <;> simp only [h,
        eA_seq, eA_reg, eA_ret, eA_skip, eA_cond, eA_block, eA_exit, eCc_true, eCc_false, Kq_normal, Kq_ret, Kq_exit, Kb_normal, Kb_exit, Kb_ret, Kreg_eq, eI_nil, bindSt_some,
              bindSt_none, bindSt_ite, eR_eq, eGI_tt, eGI_ff, eGI_tf, eGI_ft, eop, vop, ev_t, ev_c, ev_f, Option.map, put_some, put_none, set_eq, setH_eq, get_eq, hp_eq, keep_cons,
              keep_nil, lk_cons, lk_nil, startSt, envOf, reduceIte, Nat.reduceEqDiff, Nat.reduceAdd, Nat.zero_add, Nat.add_zero, Nat.reduceMul, Nat.reduceLT, Nat.reduceLeDiff, bop,
              uop, intop, fltop, convop, true_or, or_true, Bool.false_eq_true, ret_ok, ret_normal, outV, rvV, rvs, ex_some, pureV, pureX, pureX.pure1', pure1, Bool.true_and,
              Bool.false_and, Bool.and_true, Bool.and_false, Option.isNone_none, AV.cells, AV.one, storable, laid, refless, refless1, List.all_cons, List.all_nil, List.length_cons,
              List.length_nil, List.getElem?_cons_zero, List.getElem?_cons_succ, List.set_cons_zero, List.set_cons_succ, List.set_nil, List.map_cons, List.map_nil, vload, loadC,
              storeC, vnil, vfaddr, vextract, callTo, List.mapM_cons, List.mapM_nil, Option.pure_def, Option.bind_eq_bind, Option.bind_some, tabOf_cons, flatT, flatE, flatC,
              and_self, and_true, true_and, implies_true, forall_const, not_true_eq_false, not_false_eq_true, false_implies, List.take_succ_cons, List.drop_succ_cons,
              List.take_zero, List.drop_zero, Bool.not_true, Bool.not_false, beq_self_eq_true, decide_true, decide_false, eq_self, Int.reduceEq, Int.reduceLE, Int.reduceLT,
              Bool.not_not, Bool.true_or, Bool.or_true, Bool.false_or, Bool.or_false, if_true, if_false, List.getElem?_nil, Kl_normal, Kl_exit, Kl_ret, fc45_0, fc45_1, fc45_2,
              fc45_3, fc45_4, fc45_5, fc45_6, fc45_7, fc45_8, fc45_9, fc45_10, fc45_11, fc45_12, fc45_13, fc45_14, fc45_15, fc45_16, fc45_17, fc45_18, fc45_19, fc45_20, fc45_21,
              fc45_22, fc45_23, fc45_24, fc45_25, cast_lit, toNat_lit, Int.reduceAdd, Int.reduceSub, Int.reduceMul, Int.reduceNeg, Int.reducePow, Nat.reducePow, Int.reduceToNat,
              Nat.reduceSub, Nat.mul_one, Int.toNat_zero, prod_eta, List.nil_append, List.cons_append, List.append_nil, Int.le_refl, Nat.le_refl, true_implies, take_all, vconv, vmm,
              vidxA, viaddrA, iaddr_sl, iaddr_lsl, getE, vfield, vlen, fillC, fillE, List.replicate, elemsOf, List.length_map, f2iK_eq, bits_i64, bits_i32, bits_u64, bits_u32,
              bits_u8, e_mov, g_mov, e_alloc, g_alloc, e_box, g_box, e_build, g_build, e_load, g_load, e_store, g_store, e_bin, g_bin, e_faddr, g_faddr, dF32_map, dF64_map,
              dI64_map, dU8_map, dBool_map, dStr_map, decL, dF32, dF64, dI64, dU8, dBool, dStr]))
    all_goals (try simp only [*, m_impl_Vector_over, Bool.and_true, Bool.true_and, Bool.and_false, Bool.false_and, Bool.or_true, Bool.true_or, Bool.or_false, Bool.false_or, Bool.not_true, Bool.not_false, Bool.false_eq_true, if_true, if_false, reduceIte, decide_true, decide_false])
    all_goals (try (simp_all; done))
  · cases h
def m_impl_AxisOf (x0 : (Nat × Nat × Nat × Nat)) : (Nat × Nat × Nat) := (if (m_impl_isLength (m_impl_LongOf (m_impl_Turn_vector x0))) = true then (m_impl_Vector_over
      (m_impl_Turn_vector (if (flt .f32 x0.1 0) = true then (m_impl_Turn_opposite x0) else x0)) (m_impl_LongOf (m_impl_Turn_vector x0))) else (0, 0, 1065353216))
def p_impl_AxisOf (x0 : (Nat × Nat × Nat × Nat)) : Bool := (p_impl_LongOf (m_impl_Turn_vector x0))
def g_impl_AxisOf : List AV → Option AV
  | [.agg [.flt .f32 y0, .flt .f32 y1, .flt .f32 y2, .flt .f32 y3]] => if p_impl_AxisOf (y0, y1, y2, y3) = true then some (AV.agg [(.flt .f32
      (m_impl_AxisOf (y0, y1, y2, y3)).1), (.flt .f32 (m_impl_AxisOf (y0, y1, y2, y3)).2.1), (.flt .f32 (m_impl_AxisOf (y0, y1, y2, y3)).2.2)]) else none
  | _ => none
def ic68 : ICode := (.seq (.reg [⟨(some 1), none, (.box 4 (.t 0))⟩, ⟨(some 2), none, (.alloc (.agg [(.flt .f32 0), (.flt .f32 0), (.flt .f32 0)]))⟩] [1, 2]) (.seq (.reg [⟨(some 4),
      none, (.load (some 4) (.t 1))⟩, ⟨(some 5), none, (.call (.fn 57) [(.t 4)] [])⟩, ⟨(some 6), none, (.call (.fn 42) [(.t 5)] [])⟩, ⟨(some 3), none, (.mov (.t 6))⟩] [1, 2, 3])
      (.seq (.seq (.reg [⟨(some 7), none, (.mov (.t 3))⟩, ⟨(some 8), none, (.call (.fn 44) [(.t 7)] [])⟩, ⟨(some 9), none, (.un .not (.t 8))⟩] [1, 2, 3, 9]) (.cond (.t 9) (.seq
      (.reg [⟨(some 10), none, (.build [(.flt .f32 0), (.flt .f32 0), (.flt .f32 0)] [(2, 1, (.c (.flt .f32 1065353216)))])⟩, ⟨none, none, (.store 3 (.t 2) (.t 10))⟩] [2]) .ret)
      .skip)) (.seq (.seq (.reg [⟨(some 11), none, (.faddr 0 (.t 1))⟩, ⟨(some 12), none, (.load none (.t 11))⟩, ⟨(some 13), none, (.bin .lss false (.t 12) (.c (.flt .f32 0)))⟩] [1,
      2, 3, 13]) (.cond (.t 13) (.reg [⟨(some 14), none, (.load (some 4) (.t 1))⟩, ⟨(some 15), none, (.call (.fn 87) [(.t 14)] [])⟩, ⟨none, none, (.store 4 (.t 1) (.t 15))⟩] [1, 2,
      3]) .skip)) (.seq (.reg [⟨(some 16), none, (.load (some 4) (.t 1))⟩, ⟨(some 17), none, (.call (.fn 57) [(.t 16)] [])⟩, ⟨(some 18), none, (.mov (.t 3))⟩, ⟨(some 19), none,
      (.call (.fn 45) [(.t 17), (.t 18)] [])⟩, ⟨none, none, (.store 3 (.t 2) (.t 19))⟩] [2]) .ret)))))
def cp68 : CP := { n := 20, kp := [[1, 2], [1, 2, 3], [1, 2, 3, 9], [2], [1, 2, 3, 13], [1, 2, 3], [2]] }
theorem fc68_0 : IntKind.wrap .i64 (-1) = (-1) := by decide
theorem fc68_1 : IntKind.wrap .i64 0 = 0 := by decide
theorem fc68_2 : IntKind.wrap .i64 1 = 1 := by decide
theorem fc68_3 : IntKind.wrap .i64 10 = 10 := by decide
theorem fc68_4 : IntKind.wrap .i64 11 = 11 := by decide
theorem fc68_5 : IntKind.wrap .i64 110 = 110 := by decide
theorem fc68_6 : IntKind.wrap .i64 12 = 12 := by decide
theorem fc68_7 : IntKind.wrap .i64 13 = 13 := by decide
theorem fc68_8 : IntKind.wrap .i64 14 = 14 := by decide
theorem fc68_9 : IntKind.wrap .i64 15 = 15 := by decide
theorem fc68_10 : IntKind.wrap .i64 156 = 156 := by decide
theorem fc68_11 : IntKind.wrap .i64 16 = 16 := by decide
theorem fc68_12 : IntKind.wrap .i64 17 = 17 := by decide
theorem fc68_13 : IntKind.wrap .i64 2 = 2 := by decide
theorem fc68_14 : IntKind.wrap .i64 20 = 20 := by decide
theorem fc68_15 : IntKind.wrap .i64 210 = 210 := by decide
theorem fc68_16 : IntKind.wrap .i64 272 = 272 := by decide
theorem fc68_17 : IntKind.wrap .i64 3 = 3 := by decide
theorem fc68_18 : IntKind.wrap .i64 4 = 4 := by decide
theorem fc68_19 : IntKind.wrap .i64 42 = 42 := by decide
theorem fc68_20 : IntKind.wrap .i64 5 = 5 := by decide
theorem fc68_21 : IntKind.wrap .i64 6 = 6 := by decide
theorem fc68_22 : IntKind.wrap .i64 7 = 7 := by decide
theorem fc68_23 : IntKind.wrap .i64 72 = 72 := by decide
theorem fc68_24 : IntKind.wrap .i64 8 = 8 := by decide
theorem fc68_25 : IntKind.wrap .i64 9 = 9 := by decide
theorem s68 : ∀ vs r, g_impl_AxisOf vs = some r → Says Try.prog 68 vs r := by
  intro vs r h
  unfold g_impl_AxisOf at h
  split at h
  · rename_i y0 y1 y2 y3
    split at h
    · rename_i hp
      cases h
      refine spec_of (tab := tabOf [(42, g_impl_LongOf), (44, g_impl_isLength), (45, g_impl_Vector_over), (57, g_impl_Turn_vector), (87, g_impl_Turn_opposite)]) (cp := cp68) (ic := ic68) (rvl := [(.c 2 (some 3))]) hm (tabOk_cons s42 (tabOk_cons s44 (tabOk_cons s45 (tabOk_cons s57 (tabOk_cons s87 tabOk_nil))))) Try.func68 rfl rfl rfl (by kernel_rfl) rfl (Nat.le_of_ble_eq_true rfl) ?_
      show eA _ _ _ _
      unfold ic68
      simp only [p_impl_AxisOf, Bool.and_eq_true, Bool.or_eq_true, decide_eq_true_eq, Bool.not_eq_true', decide_eq_false_iff_not] at hp
      simp only [
          hp, eA_seq, eA_reg, eA_ret, eA_skip, eA_cond, eA_block, eA_exit, eCc_true, eCc_false, Kq_normal, Kq_ret, Kq_exit, Kb_normal, Kb_exit, Kb_ret, Kreg_eq, eI_nil, bindSt_some,
                bindSt_none, bindSt_ite, eR_eq, eGI_tt, eGI_ff, eGI_tf, eGI_ft, eop, vop, ev_t, ev_c, ev_f, Option.map, put_some, put_none, set_eq, setH_eq, get_eq, hp_eq,
                keep_cons, keep_nil, lk_cons, lk_nil, startSt, envOf, reduceIte, Nat.reduceEqDiff, Nat.reduceAdd, Nat.zero_add, Nat.add_zero, Nat.reduceMul, Nat.reduceLT,
                Nat.reduceLeDiff, bop, uop, intop, fltop, convop, true_or, or_true, Bool.false_eq_true, ret_ok, ret_normal, outV, rvV, rvs, ex_some, pureV, pureX, pureX.pure1',
                pure1, Bool.true_and, Bool.false_and, Bool.and_true, Bool.and_false, Option.isNone_none, AV.cells, AV.one, storable, laid, refless, refless1, List.all_cons,
                List.all_nil, List.length_cons, List.length_nil, List.getElem?_cons_zero, List.getElem?_cons_succ, List.set_cons_zero, List.set_cons_succ, List.set_nil,
                List.map_cons, List.map_nil, vload, loadC, storeC, vnil, vfaddr, vextract, callTo, List.mapM_cons, List.mapM_nil, Option.pure_def, Option.bind_eq_bind,
                Option.bind_some, tabOf_cons, flatT, flatE, flatC, and_self, and_true, true_and, implies_true, forall_const, not_true_eq_false, not_false_eq_true, false_implies,
                List.take_succ_cons, List.drop_succ_cons, List.take_zero, List.drop_zero, Bool.not_true, Bool.not_false, beq_self_eq_true, decide_true, decide_false, eq_self,
                Int.reduceEq, Int.reduceLE, Int.reduceLT, Bool.not_not, Bool.true_or, Bool.or_true, Bool.false_or, Bool.or_false, if_true, if_false, List.getElem?_nil, Kl_normal,
                Kl_exit, Kl_ret, fc68_0, fc68_1, fc68_2, fc68_3, fc68_4, fc68_5, fc68_6, fc68_7, fc68_8, fc68_9, fc68_10, fc68_11, fc68_12, fc68_13, fc68_14, fc68_15, fc68_16,
                fc68_17, fc68_18, fc68_19, fc68_20, fc68_21, fc68_22, fc68_23, fc68_24, fc68_25, cast_lit, toNat_lit, Int.reduceAdd, Int.reduceSub, Int.reduceMul, Int.reduceNeg,
                Int.reducePow, Nat.reducePow, Int.reduceToNat, Nat.reduceSub, Nat.mul_one, Int.toNat_zero, prod_eta, List.nil_append, List.cons_append, List.append_nil, Int.le_refl,
                Nat.le_refl, true_implies, take_all, vconv, vmm, vidxA, viaddrA, iaddr_sl, iaddr_lsl, getE, vfield, vlen, fillC, fillE, List.replicate, elemsOf, List.length_map,
                f2iK_eq, bits_i64, bits_i32, bits_u64, bits_u32, bits_u8, e_mov, g_mov, e_alloc, g_alloc, e_box, g_box, e_build, g_build, e_load, g_load, e_store, g_store, e_bin,
                g_bin, e_un, g_un, e_faddr, g_faddr, e_call, g_call, g_impl_LongOf, g_impl_isLength, g_impl_Vector_over, g_impl_Turn_vector, g_impl_Turn_opposite, dF32_map,
                dF64_map, dI64_map, dU8_map, dBool_map, dStr_map, decL, dF32, dF64, dI64, dU8, dBool, dStr]
      repeat' (first
        | ((first | (refine eGI_of (fun h => ?_) (fun h => ?_)) | (refine eCc_of (fun h => ?_) (fun h => ?_))) <;> (try simp only [Bool.not_eq_true', Bool.not_eq_false'] at h) <;> (try simp only [h, reduceCtorEq, Bool.not_eq_true', decide_eq_false_iff_not, Bool.not_true, Bool.not_false, Bool.false_or, Bool.true_or, Bool.true_and, Bool.false_and, Bool.and_eq_true, Bool.or_eq_true, if_true, if_false, reduceIte, Bool.false_eq_true, and_true, true_and, false_or, or_false, decide_eq_true_eq, not_false_eq_true, not_true_eq_false] at hp) <;> (try (have h2 := h; simp only [decide_eq_true_eq, decide_eq_false_iff_not] at h2; (first | (replace h2 := eq_false h2) | (replace h2 := eq_true h2)); simp only [h2, if_true, if_false, false_or, true_or, or_true, or_false, and_true, true_and, not_false_eq_true, not_true_eq_false] at hp)) <;> simp only [h,
          hp, eA_seq, eA_reg, eA_ret, eA_skip, eA_cond, eA_block, eA_exit, eCc_true, eCc_false, Kq_normal, Kq_ret, Kq_exit, Kb_normal, Kb_exit, Kb_ret, Kreg_eq, eI_nil, bindSt_some,
                bindSt_none, bindSt_ite, eR_eq, eGI_tt, eGI_ff, eGI_tf, eGI_ft, eop, vop, ev_t, ev_c, ev_f, Option.map, put_some, put_none, set_eq, setH_eq, get_eq, hp_eq,
                keep_cons, keep_nil, lk_cons, lk_nil, startSt, envOf, reduceIte, Nat.reduceEqDiff, Nat.reduceAdd, Nat.zero_add, Nat.add_zero, Nat.reduceMul, Nat.reduceLT,
                Nat.reduceLeDiff, bop, uop, intop, fltop, convop, true_or, or_true, Bool.false_eq_true, ret_ok, ret_normal, outV, rvV, rvs, ex_some, pureV, pureX, pureX.pure1',
                pure1, Bool.true_and, Bool.false_and, Bool.and_true, Bool.and_false, Option.isNone_none, AV.cells, AV.one, storable, laid, refless, refless1, List.all_cons,
                List.all_nil, List.length_cons, List.length_nil, List.getElem?_cons_zero, List.getElem?_cons_succ, List.set_cons_zero, List.set_cons_succ, List.set_nil,
                List.map_cons, List.map_nil, vload, loadC, storeC, vnil, vfaddr, vextract, callTo, List.mapM_cons, List.mapM_nil, Option.pure_def, Option.bind_eq_bind,
                Option.bind_some, tabOf_cons, flatT, flatE, flatC, and_self, and_true, true_and, implies_true, forall_const, not_true_eq_false, not_false_eq_true, false_implies,
                List.take_succ_cons, List.drop_succ_cons, List.take_zero, List.drop_zero, Bool.not_true, Bool.not_false, beq_self_eq_true, decide_true, decide_false, eq_self,
                Int.reduceEq, Int.reduceLE, Int.reduceLT, Bool.not_not, Bool.true_or, Bool.or_true, Bool.false_or, Bool.or_false, if_true, if_false, List.getElem?_nil, Kl_normal,
                Kl_exit, Kl_ret, fc68_0, fc68_1, fc68_2, fc68_3, fc68_4, fc68_5, fc68_6, fc68_7, fc68_8, fc68_9, fc68_10, fc68_11, fc68_12, fc68_13, fc68_14, fc68_15, fc68_16,
                fc68_17, fc68_18, fc68_19, fc68_20, fc68_21, fc68_22, fc68_23, fc68_24, fc68_25, cast_lit, toNat_lit, Int.reduceAdd, Int.reduceSub, Int.reduceMul, Int.reduceNeg,
                Int.reducePow, Nat.reducePow, Int.reduceToNat, Nat.reduceSub, Nat.mul_one, Int.toNat_zero, prod_eta, List.nil_append, List.cons_append, List.append_nil, Int.le_refl,
                Nat.le_refl, true_implies, take_all, vconv, vmm, vidxA, viaddrA, iaddr_sl, iaddr_lsl, getE, vfield, vlen, fillC, fillE, List.replicate, elemsOf, List.length_map,
                f2iK_eq, bits_i64, bits_i32, bits_u64, bits_u32, bits_u8, e_mov, g_mov, e_alloc, g_alloc, e_box, g_box, e_build, g_build, e_load, g_load, e_store, g_store, e_bin,
                g_bin, e_un, g_un, e_faddr, g_faddr, e_call, g_call, g_impl_LongOf, g_impl_isLength, g_impl_Vector_over, g_impl_Turn_vector, g_impl_Turn_opposite, dF32_map,
                dF64_map, dI64_map, dU8_map, dBool_map, dStr_map, decL, dF32, dF64, dI64, dU8, dBool, dStr]))
      all_goals (try simp only [*, m_impl_AxisOf, Bool.and_true, Bool.true_and, Bool.and_false, Bool.false_and, Bool.or_true, Bool.true_or, Bool.or_false, Bool.false_or, Bool.not_true, Bool.not_false, Bool.false_eq_true, if_true, if_false, reduceIte, decide_true, decide_false])
      all_goals (try (simp_all; done))
    · cases h
  · cases h
theorem s107 : ∀ vs r, g_integral .zero vs = some r → Says Try.prog 107 vs r := t_integral (name := "math.archTrunc") Try.func107 (by kernel_rfl) rfl (by kernel_rfl) (by kernel_rfl)
def m_math_Trunc (x0 : Nat) : Nat := (integral .zero x0)
def g_math_Trunc : List AV → Option AV
  | [.flt .f64 y0] => some (.flt .f64 (m_math_Trunc y0))
  | _ => none
def ic103 : ICode := (.seq (.reg [⟨(some 2), none, (.mov (.c (.flt .f64 0)))⟩] [0]) (.seq (.cond (.c (.bool true)) (.seq (.reg [⟨(some 3), none, (.mov (.t 0))⟩, ⟨(some 4), none,
      (.call (.fn 107) [(.t 3)] [])⟩, ⟨(some 2), none, (.mov (.t 4))⟩] [2]) .ret) .skip) (.seq (.reg [⟨(some 5), none, (.mov (.t 0))⟩, ⟨(some 6), none, (.call (.fn 108) [(.t 5)]
      [])⟩, ⟨(some 2), none, (.mov (.t 6))⟩] [2]) .ret)))
def cp103 : CP := { n := 7, kp := [[0], [2], [2]] }
theorem fc103_0 : IntKind.wrap .i64 (-1) = (-1) := by decide
theorem fc103_1 : IntKind.wrap .i64 0 = 0 := by decide
theorem fc103_2 : IntKind.wrap .i64 1 = 1 := by decide
theorem fc103_3 : IntKind.wrap .i64 10 = 10 := by decide
theorem fc103_4 : IntKind.wrap .i64 11 = 11 := by decide
theorem fc103_5 : IntKind.wrap .i64 110 = 110 := by decide
theorem fc103_6 : IntKind.wrap .i64 12 = 12 := by decide
theorem fc103_7 : IntKind.wrap .i64 13 = 13 := by decide
theorem fc103_8 : IntKind.wrap .i64 14 = 14 := by decide
theorem fc103_9 : IntKind.wrap .i64 15 = 15 := by decide
theorem fc103_10 : IntKind.wrap .i64 156 = 156 := by decide
theorem fc103_11 : IntKind.wrap .i64 16 = 16 := by decide
theorem fc103_12 : IntKind.wrap .i64 17 = 17 := by decide
theorem fc103_13 : IntKind.wrap .i64 2 = 2 := by decide
theorem fc103_14 : IntKind.wrap .i64 20 = 20 := by decide
theorem fc103_15 : IntKind.wrap .i64 210 = 210 := by decide
theorem fc103_16 : IntKind.wrap .i64 272 = 272 := by decide
theorem fc103_17 : IntKind.wrap .i64 3 = 3 := by decide
theorem fc103_18 : IntKind.wrap .i64 4 = 4 := by decide
theorem fc103_19 : IntKind.wrap .i64 42 = 42 := by decide
theorem fc103_20 : IntKind.wrap .i64 5 = 5 := by decide
theorem fc103_21 : IntKind.wrap .i64 6 = 6 := by decide
theorem fc103_22 : IntKind.wrap .i64 7 = 7 := by decide
theorem fc103_23 : IntKind.wrap .i64 72 = 72 := by decide
theorem fc103_24 : IntKind.wrap .i64 8 = 8 := by decide
theorem fc103_25 : IntKind.wrap .i64 9 = 9 := by decide
theorem s103 : ∀ vs r, g_math_Trunc vs = some r → Says Try.prog 103 vs r := by
  intro vs r h
  unfold g_math_Trunc at h
  split at h
  · rename_i y0
    cases h
    refine spec_of (tab := tabOf [(107, g_integral .zero)]) (cp := cp103) (ic := ic103) (rvl := [(.t 2)]) hm (tabOk_cons s107 tabOk_nil) Try.func103 rfl rfl rfl (by kernel_rfl) rfl (Nat.le_of_ble_eq_true rfl) ?_
    show eA _ _ _ _
    unfold ic103
    simp only [
        eA_seq, eA_reg, eA_ret, eA_skip, eA_cond, eA_block, eA_exit, eCc_true, eCc_false, Kq_normal, Kq_ret, Kq_exit, Kb_normal, Kb_exit, Kb_ret, Kreg_eq, eI_nil, bindSt_some,
              bindSt_none, bindSt_ite, eR_eq, eGI_tt, eGI_ff, eGI_tf, eGI_ft, eop, vop, ev_t, ev_c, ev_f, Option.map, put_some, put_none, set_eq, setH_eq, get_eq, hp_eq, keep_cons,
              keep_nil, lk_cons, lk_nil, startSt, envOf, reduceIte, Nat.reduceEqDiff, Nat.reduceAdd, Nat.zero_add, Nat.add_zero, Nat.reduceMul, Nat.reduceLT, Nat.reduceLeDiff, bop,
              uop, intop, fltop, convop, true_or, or_true, Bool.false_eq_true, ret_ok, ret_normal, outV, rvV, rvs, ex_some, pureV, pureX, pureX.pure1', pure1, Bool.true_and,
              Bool.false_and, Bool.and_true, Bool.and_false, Option.isNone_none, AV.cells, AV.one, storable, laid, refless, refless1, List.all_cons, List.all_nil, List.length_cons,
              List.length_nil, List.getElem?_cons_zero, List.getElem?_cons_succ, List.set_cons_zero, List.set_cons_succ, List.set_nil, List.map_cons, List.map_nil, vload, loadC,
              storeC, vnil, vfaddr, vextract, callTo, List.mapM_cons, List.mapM_nil, Option.pure_def, Option.bind_eq_bind, Option.bind_some, tabOf_cons, flatT, flatE, flatC,
              and_self, and_true, true_and, implies_true, forall_const, not_true_eq_false, not_false_eq_true, false_implies, List.take_succ_cons, List.drop_succ_cons,
              List.take_zero, List.drop_zero, Bool.not_true, Bool.not_false, beq_self_eq_true, decide_true, decide_false, eq_self, Int.reduceEq, Int.reduceLE, Int.reduceLT,
              Bool.not_not, Bool.true_or, Bool.or_true, Bool.false_or, Bool.or_false, if_true, if_false, List.getElem?_nil, Kl_normal, Kl_exit, Kl_ret, fc103_0, fc103_1, fc103_2,
              fc103_3, fc103_4, fc103_5, fc103_6, fc103_7, fc103_8, fc103_9, fc103_10, fc103_11, fc103_12, fc103_13, fc103_14, fc103_15, fc103_16, fc103_17, fc103_18, fc103_19,
              fc103_20, fc103_21, fc103_22, fc103_23, fc103_24, fc103_25, cast_lit, toNat_lit, Int.reduceAdd, Int.reduceSub, Int.reduceMul, Int.reduceNeg, Int.reducePow,
              Nat.reducePow, Int.reduceToNat, Nat.reduceSub, Nat.mul_one, Int.toNat_zero, prod_eta, List.nil_append, List.cons_append, List.append_nil, Int.le_refl, Nat.le_refl,
              true_implies, take_all, vconv, vmm, vidxA, viaddrA, iaddr_sl, iaddr_lsl, getE, vfield, vlen, fillC, fillE, List.replicate, elemsOf, List.length_map, f2iK_eq, bits_i64,
              bits_i32, bits_u64, bits_u32, bits_u8, e_mov, g_mov, e_call, g_call, g_integral, dF32_map, dF64_map, dI64_map, dU8_map, dBool_map, dStr_map, decL, dF32, dF64, dI64,
              dU8, dBool, dStr]
    repeat' (first
      | ((first | (refine eGI_of (fun h => ?_) (fun h => ?_)) | (refine eCc_of (fun h => ?_) (fun h => ?_))) <;> (try simp only [Bool.not_eq_true', Bool.not_eq_false'] at h) <;> simp only [h,
        eA_seq, eA_reg, eA_ret, eA_skip, eA_cond, eA_block, eA_exit, eCc_true, eCc_false, Kq_normal, Kq_ret, Kq_exit, Kb_normal, Kb_exit, Kb_ret, Kreg_eq, eI_nil, bindSt_some,
              bindSt_none, bindSt_ite, eR_eq, eGI_tt, eGI_ff, eGI_tf, eGI_ft, eop, vop, ev_t, ev_c, ev_f, Option.map, put_some, put_none, set_eq, setH_eq, get_eq, hp_eq, keep_cons,
              keep_nil, lk_cons, lk_nil, startSt, envOf, reduceIte, Nat.reduceEqDiff, Nat.reduceAdd, Nat.zero_add, Nat.add_zero, Nat.reduceMul, Nat.reduceLT, Nat.reduceLeDiff, bop,
              uop, intop, fltop, convop, true_or, or_true, Bool.false_eq_true, ret_ok, ret_normal, outV, rvV, rvs, ex_some, pureV, pureX, pureX.pure1', pure1, Bool.true_and,
              Bool.false_and, Bool.and_true, Bool.and_false, Option.isNone_none, AV.cells, AV.one, storable, laid, refless, refless1, List.all_cons, List.all_nil, List.length_cons,
              List.length_nil, List.getElem?_cons_zero, List.getElem?_cons_succ, List.set_cons_zero, List.set_cons_succ, List.set_nil, List.map_cons, List.map_nil, vload, loadC,
              storeC, vnil, vfaddr, vextract, callTo, List.mapM_cons, List.mapM_nil, Option.pure_def, Option.bind_eq_bind, Option.bind_some, tabOf_cons, flatT, flatE, flatC,
              and_self, and_true, true_and, implies_true, forall_const, not_true_eq_false, not_false_eq_true, false_implies, List.take_succ_cons, List.drop_succ_cons,
              List.take_zero, List.drop_zero, Bool.not_true, Bool.not_false, beq_self_eq_true, decide_true, decide_false, eq_self, Int.reduceEq, Int.reduceLE, Int.reduceLT,
              Bool.not_not, Bool.true_or, Bool.or_true, Bool.false_or, Bool.or_false, if_true, if_false, List.getElem?_nil, Kl_normal, Kl_exit, Kl_ret, fc103_0, fc103_1, fc103_2,
              fc103_3, fc103_4, fc103_5, fc103_6, fc103_7, fc103_8, fc103_9, fc103_10, fc103_11, fc103_12, fc103_13, fc103_14, fc103_15, fc103_16, fc103_17, fc103_18, fc103_19,
              fc103_20, fc103_21, fc103_22, fc103_23, fc103_24, fc103_25, cast_lit, toNat_lit, Int.reduceAdd, Int.reduceSub, Int.reduceMul, Int.reduceNeg, Int.reducePow,
              Nat.reducePow, Int.reduceToNat, Nat.reduceSub, Nat.mul_one, Int.toNat_zero, prod_eta, List.nil_append, List.cons_append, List.append_nil, Int.le_refl, Nat.le_refl,
              true_implies, take_all, vconv, vmm, vidxA, viaddrA, iaddr_sl, iaddr_lsl, getE, vfield, vlen, fillC, fillE, List.replicate, elemsOf, List.length_map, f2iK_eq, bits_i64,
              bits_i32, bits_u64, bits_u32, bits_u8, e_mov, g_mov, e_call, g_call, g_integral, dF32_map, dF64_map, dI64_map, dU8_map, dBool_map, dStr_map, decL, dF32, dF64, dI64,
              dU8, dBool, dStr]))
    all_goals (try simp only [*, m_math_Trunc, Bool.and_true, Bool.true_and, Bool.and_false, Bool.false_and, Bool.or_true, Bool.true_or, Bool.or_false, Bool.false_or, Bool.not_true, Bool.not_false, Bool.false_eq_true, if_true, if_false, reduceIte, decide_true, decide_false])
    all_goals (try (simp_all; done))
  · cases h
def v_impl_placesOf_0 (x0 : Nat) : Nat := (if (flt .f64 (if (feq .f64 (m_math_Trunc x0) 0) = true then x0 else (fsub .f64 x0 (m_math_Trunc x0))) 0) = true then (fadd .f64 (if (feq
      .f64 (m_math_Trunc x0) 0) = true then x0 else (fsub .f64 x0 (m_math_Trunc x0))) 4607182418800017408) else (if (feq .f64 (m_math_Trunc x0) 0) = true then x0 else (fsub .f64 x0
      (m_math_Trunc x0))))
def m_impl_placesOf (x0 : Nat) : Nat := (v_impl_placesOf_0 x0)
def g_impl_placesOf : List AV → Option AV
  | [.flt .f64 y0] => some (.flt .f64 (m_impl_placesOf y0))
  | _ => none
def ic94 : ICode := (.seq (.reg [⟨(some 2), none, (.mov (.c (.flt .f64 0)))⟩] [0]) (.seq (.reg [⟨(some 5), none, (.mov (.t 0))⟩, ⟨(some 3), none, (.mov (.t 5))⟩] [0, 3]) (.seq (.seq
      (.reg [⟨(some 6), none, (.mov (.t 0))⟩, ⟨(some 7), none, (.call (.fn 103) [(.t 6)] [])⟩, ⟨(some 4), none, (.mov (.t 7))⟩] [3, 4]) (.seq (.reg [⟨(some 8), none, (.mov (.t 4))⟩,
      ⟨(some 9), none, (.bin .neq false (.t 8) (.c (.flt .f64 0)))⟩] [3, 4, 9]) (.cond (.t 9) (.reg [⟨(some 10), none, (.mov (.t 3))⟩, ⟨(some 11), none, (.mov (.t 4))⟩, ⟨(some 12),
      none, (.bin .sub false (.t 10) (.t 11))⟩, ⟨(some 3), none, (.mov (.t 12))⟩] [3]) .skip))) (.seq (.seq (.reg [⟨(some 13), none, (.mov (.t 3))⟩, ⟨(some 14), none, (.bin .lss
      false (.t 13) (.c (.flt .f64 0)))⟩] [3, 14]) (.cond (.t 14) (.reg [⟨(some 15), none, (.mov (.t 3))⟩, ⟨(some 16), none, (.bin .add false (.t 15) (.c (.flt .f64
      4607182418800017408)))⟩, ⟨(some 3), none, (.mov (.t 16))⟩] [3]) .skip)) (.seq (.reg [⟨(some 17), none, (.mov (.t 3))⟩, ⟨(some 2), none, (.mov (.t 17))⟩] [2]) .ret)))))
def cp94 : CP := { n := 18, kp := [[0], [0, 3], [3, 4], [3, 4, 9], [3], [3, 14], [3], [2]] }
theorem fc94_0 : IntKind.wrap .i64 (-1) = (-1) := by decide
theorem fc94_1 : IntKind.wrap .i64 0 = 0 := by decide
theorem fc94_2 : IntKind.wrap .i64 1 = 1 := by decide
theorem fc94_3 : IntKind.wrap .i64 10 = 10 := by decide
theorem fc94_4 : IntKind.wrap .i64 11 = 11 := by decide
theorem fc94_5 : IntKind.wrap .i64 110 = 110 := by decide
theorem fc94_6 : IntKind.wrap .i64 12 = 12 := by decide
theorem fc94_7 : IntKind.wrap .i64 13 = 13 := by decide
theorem fc94_8 : IntKind.wrap .i64 14 = 14 := by decide
theorem fc94_9 : IntKind.wrap .i64 15 = 15 := by decide
theorem fc94_10 : IntKind.wrap .i64 156 = 156 := by decide
theorem fc94_11 : IntKind.wrap .i64 16 = 16 := by decide
theorem fc94_12 : IntKind.wrap .i64 17 = 17 := by decide
theorem fc94_13 : IntKind.wrap .i64 2 = 2 := by decide
theorem fc94_14 : IntKind.wrap .i64 20 = 20 := by decide
theorem fc94_15 : IntKind.wrap .i64 210 = 210 := by decide
theorem fc94_16 : IntKind.wrap .i64 272 = 272 := by decide
theorem fc94_17 : IntKind.wrap .i64 3 = 3 := by decide
theorem fc94_18 : IntKind.wrap .i64 4 = 4 := by decide
theorem fc94_19 : IntKind.wrap .i64 42 = 42 := by decide
theorem fc94_20 : IntKind.wrap .i64 5 = 5 := by decide
theorem fc94_21 : IntKind.wrap .i64 6 = 6 := by decide
theorem fc94_22 : IntKind.wrap .i64 7 = 7 := by decide
theorem fc94_23 : IntKind.wrap .i64 72 = 72 := by decide
theorem fc94_24 : IntKind.wrap .i64 8 = 8 := by decide
theorem fc94_25 : IntKind.wrap .i64 9 = 9 := by decide
end Go.Proofs
