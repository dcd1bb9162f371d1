/- What functions that FnExactLookAt reaches compute. No conditions. -/
import Derived.Test.YtpoghajdcdfhbaeFwF
import Derived.Test.YtpoghajdcdfhbaeProg
import Derived.KernelRfl
set_option maxRecDepth 100000
set_option maxHeartbeats 4000000
set_option linter.all false
namespace Go.Proofs
open Go.Ab
theorem hm : Try.prog.follows .mixedOrders = true := by kernel_rfl
def m_laws_toVector (x0 : (Nat × Nat × Nat)) : (Nat × Nat × Nat) := (x0.1, x0.2.1, x0.2.2)
def g_laws_toVector : List AV → Option AV
  | [.agg [.flt .f32 y0, .flt .f32 y1, .flt .f32 y2]] => some (AV.agg [(.flt .f32 (m_laws_toVector (y0, y1, y2)).1), (.flt .f32
      (m_laws_toVector (y0, y1, y2)).2.1), (.flt .f32 (m_laws_toVector (y0, y1, y2)).2.2)])
  | _ => none
def ic12 : ICode := (.seq (.reg [⟨(some 1), none, (.box 3 (.t 0))⟩, ⟨(some 2), none, (.alloc (.agg [(.flt .f32 0), (.flt .f32 0), (.flt .f32 0)]))⟩] [1, 2]) (.seq (.reg [⟨(some 3),
      none, (.alloc (.agg [(.flt .f32 0), (.flt .f32 0), (.flt .f32 0)]))⟩] [1, 2, 3]) (.seq (.reg [⟨(some 4), none, (.faddr 0 (.t 1))⟩, ⟨(some 5), none, (.load none (.t 4))⟩,
      ⟨(some 6), none, (.faddr 0 (.t 3))⟩, ⟨none, none, (.store 1 (.t 6) (.t 5))⟩] [1, 2, 3]) (.seq (.reg [⟨(some 7), none, (.faddr 1 (.t 1))⟩, ⟨(some 8), none, (.load none (.t
      7))⟩, ⟨(some 9), none, (.faddr 1 (.t 3))⟩, ⟨none, none, (.store 1 (.t 9) (.t 8))⟩] [1, 2, 3]) (.seq (.reg [⟨(some 10), none, (.faddr 2 (.t 1))⟩, ⟨(some 11), none, (.load none
      (.t 10))⟩, ⟨(some 12), none, (.faddr 2 (.t 3))⟩, ⟨none, none, (.store 1 (.t 12) (.t 11))⟩] [2, 3]) (.seq (.reg [⟨(some 13), none, (.load (some 3) (.t 3))⟩, ⟨none, none,
      (.store 3 (.t 2) (.t 13))⟩] [2]) .ret))))))
def cp12 : CP := { n := 14, kp := [[1, 2], [1, 2, 3], [1, 2, 3], [1, 2, 3], [2, 3], [2]] }
theorem fc12_0 : IntKind.wrap .i64 (-1) = (-1) := by decide
theorem fc12_1 : IntKind.wrap .i64 0 = 0 := by decide
theorem fc12_2 : IntKind.wrap .i64 1 = 1 := by decide
theorem fc12_3 : IntKind.wrap .i64 10 = 10 := by decide
theorem fc12_4 : IntKind.wrap .i64 11 = 11 := by decide
theorem fc12_5 : IntKind.wrap .i64 110 = 110 := by decide
theorem fc12_6 : IntKind.wrap .i64 12 = 12 := by decide
theorem fc12_7 : IntKind.wrap .i64 13 = 13 := by decide
theorem fc12_8 : IntKind.wrap .i64 14 = 14 := by decide
theorem fc12_9 : IntKind.wrap .i64 15 = 15 := by decide
theorem fc12_10 : IntKind.wrap .i64 156 = 156 := by decide
theorem fc12_11 : IntKind.wrap .i64 16 = 16 := by decide
theorem fc12_12 : IntKind.wrap .i64 17 = 17 := by decide
theorem fc12_13 : IntKind.wrap .i64 2 = 2 := by decide
theorem fc12_14 : IntKind.wrap .i64 20 = 20 := by decide
theorem fc12_15 : IntKind.wrap .i64 210 = 210 := by decide
theorem fc12_16 : IntKind.wrap .i64 272 = 272 := by decide
theorem fc12_17 : IntKind.wrap .i64 3 = 3 := by decide
theorem fc12_18 : IntKind.wrap .i64 4 = 4 := by decide
theorem fc12_19 : IntKind.wrap .i64 42 = 42 := by decide
theorem fc12_20 : IntKind.wrap .i64 5 = 5 := by decide
theorem fc12_21 : IntKind.wrap .i64 6 = 6 := by decide
theorem fc12_22 : IntKind.wrap .i64 7 = 7 := by decide
theorem fc12_23 : IntKind.wrap .i64 72 = 72 := by decide
theorem fc12_24 : IntKind.wrap .i64 8 = 8 := by decide
theorem fc12_25 : IntKind.wrap .i64 9 = 9 := by decide
theorem s12 : ∀ vs r, g_laws_toVector vs = some r → Says Try.prog 12 vs r := by
  intro vs r h
  unfold g_laws_toVector at h
  split at h
  · rename_i y0 y1 y2
    cases h
    refine spec_of (tab := tabOf []) (cp := cp12) (ic := ic12) (rvl := [(.c 2 (some 3))]) hm tabOk_nil Try.func12 rfl rfl rfl (by kernel_rfl) rfl (Nat.le_of_ble_eq_true rfl) ?_
    show eA _ _ _ _
    unfold ic12
    simp only [
        eA_seq, eA_reg, eA_ret, eA_skip, eA_cond, eA_block, eA_exit, eCc_true, eCc_false, Kq_normal, Kq_ret, Kq_exit, Kb_normal, Kb_exit, Kb_ret, Kreg_eq, eI_nil, bindSt_some,
              bindSt_none, bindSt_ite, eR_eq, eGI_tt, eGI_ff, eGI_tf, eGI_ft, eop, vop, ev_t, ev_c, ev_f, Option.map, put_some, put_none, set_eq, setH_eq, get_eq, hp_eq, keep_cons,
              keep_nil, lk_cons, lk_nil, startSt, envOf, reduceIte, Nat.reduceEqDiff, Nat.reduceAdd, Nat.zero_add, Nat.add_zero, Nat.reduceMul, Nat.reduceLT, Nat.reduceLeDiff, bop,
              uop, intop, fltop, convop, true_or, or_true, Bool.false_eq_true, ret_ok, ret_normal, outV, rvV, rvs, ex_some, pureV, pureX, pureX.pure1', pure1, Bool.true_and,
              Bool.false_and, Bool.and_true, Bool.and_false, Option.isNone_none, AV.cells, AV.one, storable, laid, refless, refless1, List.all_cons, List.all_nil, List.length_cons,
              List.length_nil, List.getElem?_cons_zero, List.getElem?_cons_succ, List.set_cons_zero, List.set_cons_succ, List.set_nil, List.map_cons, List.map_nil, vload, loadC,
              storeC, vnil, vfaddr, vextract, callTo, List.mapM_cons, List.mapM_nil, Option.pure_def, Option.bind_eq_bind, Option.bind_some, tabOf_cons, flatT, flatE, flatC,
              and_self, and_true, true_and, implies_true, forall_const, not_true_eq_false, not_false_eq_true, false_implies, List.take_succ_cons, List.drop_succ_cons,
              List.take_zero, List.drop_zero, Bool.not_true, Bool.not_false, beq_self_eq_true, decide_true, decide_false, eq_self, Int.reduceEq, Int.reduceLE, Int.reduceLT,
              Bool.not_not, Bool.true_or, Bool.or_true, Bool.false_or, Bool.or_false, if_true, if_false, List.getElem?_nil, Kl_normal, Kl_exit, Kl_ret, fc12_0, fc12_1, fc12_2,
              fc12_3, fc12_4, fc12_5, fc12_6, fc12_7, fc12_8, fc12_9, fc12_10, fc12_11, fc12_12, fc12_13, fc12_14, fc12_15, fc12_16, fc12_17, fc12_18, fc12_19, fc12_20, fc12_21,
              fc12_22, fc12_23, fc12_24, fc12_25, cast_lit, toNat_lit, Int.reduceAdd, Int.reduceSub, Int.reduceMul, Int.reduceNeg, Int.reducePow, Nat.reducePow, Int.reduceToNat,
              Nat.reduceSub, Nat.mul_one, Int.toNat_zero, prod_eta, List.nil_append, List.cons_append, List.append_nil, Int.le_refl, Nat.le_refl, true_implies, take_all, vconv, vmm,
              vidxA, viaddrA, iaddr_sl, iaddr_lsl, getE, vfield, vlen, fillC, fillE, List.replicate, elemsOf, List.length_map, f2iK_eq, bits_i64, bits_i32, bits_u64, bits_u32,
              bits_u8, e_alloc, g_alloc, e_box, g_box, e_load, g_load, e_store, g_store, e_faddr, g_faddr, dF32_map, dF64_map, dI64_map, dU8_map, dBool_map, dStr_map, decL, dF32,
              dF64, dI64, dU8, dBool, dStr]
    repeat' (first
      | ((first | (refine eGI_of (fun h => ?_) (fun h => ?_)) | (refine eCc_of (fun h => ?_) (fun h => ?_))) <;> (try simp only [Bool.not_eq_true', Bool.not_eq_false'] at h) <;> simp only [h,
        eA_seq, eA_reg, eA_ret, eA_skip, eA_cond, eA_block, eA_exit, eCc_true, eCc_false, Kq_normal, Kq_ret, Kq_exit, Kb_normal, Kb_exit, Kb_ret, Kreg_eq, eI_nil, bindSt_some,
              bindSt_none, bindSt_ite, eR_eq, eGI_tt, eGI_ff, eGI_tf, eGI_ft, eop, vop, ev_t, ev_c, ev_f, Option.map, put_some, put_none, set_eq, setH_eq, get_eq, hp_eq, keep_cons,
              keep_nil, lk_cons, lk_nil, startSt, envOf, reduceIte, Nat.reduceEqDiff, Nat.reduceAdd, Nat.zero_add, Nat.add_zero, Nat.reduceMul, Nat.reduceLT, Nat.reduceLeDiff, bop,
              uop, intop, fltop, convop, true_or, or_true, Bool.false_eq_true, ret_ok, ret_normal, outV, rvV, rvs, ex_some, pureV, pureX, pureX.pure1', pure1, Bool.true_and,
              Bool.false_and, Bool.and_true, Bool.and_false, Option.isNone_none, AV.cells, AV.one, storable, laid, refless, refless1, List.all_cons, List.all_nil, List.length_cons,
              List.length_nil, List.getElem?_cons_zero, List.getElem?_cons_succ, List.set_cons_zero, List.set_cons_succ, List.set_nil, List.map_cons, List.map_nil, vload, loadC,
              storeC, vnil, vfaddr, vextract, callTo, List.mapM_cons, List.mapM_nil, Option.pure_def, Option.bind_eq_bind, Option.bind_some, tabOf_cons, flatT, flatE, flatC,
              and_self, and_true, true_and, implies_true, forall_const, not_true_eq_false, not_false_eq_true, false_implies, List.take_succ_cons, List.drop_succ_cons,
              List.take_zero, List.drop_zero, Bool.not_true, Bool.not_false, beq_self_eq_true, decide_true, decide_false, eq_self, Int.reduceEq, Int.reduceLE, Int.reduceLT,
              Bool.not_not, Bool.true_or, Bool.or_true, Bool.false_or, Bool.or_false, if_true, if_false, List.getElem?_nil, Kl_normal, Kl_exit, Kl_ret, fc12_0, fc12_1, fc12_2,
              fc12_3, fc12_4, fc12_5, fc12_6, fc12_7, fc12_8, fc12_9, fc12_10, fc12_11, fc12_12, fc12_13, fc12_14, fc12_15, fc12_16, fc12_17, fc12_18, fc12_19, fc12_20, fc12_21,
              fc12_22, fc12_23, fc12_24, fc12_25, cast_lit, toNat_lit, Int.reduceAdd, Int.reduceSub, Int.reduceMul, Int.reduceNeg, Int.reducePow, Nat.reducePow, Int.reduceToNat,
              Nat.reduceSub, Nat.mul_one, Int.toNat_zero, prod_eta, List.nil_append, List.cons_append, List.append_nil, Int.le_refl, Nat.le_refl, true_implies, take_all, vconv, vmm,
              vidxA, viaddrA, iaddr_sl, iaddr_lsl, getE, vfield, vlen, fillC, fillE, List.replicate, elemsOf, List.length_map, f2iK_eq, bits_i64, bits_i32, bits_u64, bits_u32,
              bits_u8, e_alloc, g_alloc, e_box, g_box, e_load, g_load, e_store, g_store, e_faddr, g_faddr, dF32_map, dF64_map, dI64_map, dU8_map, dBool_map, dStr_map, decL, dF32,
              dF64, dI64, dU8, dBool, dStr]))
    all_goals (try simp only [*, m_laws_toVector, Bool.and_true, Bool.true_and, Bool.and_false, Bool.false_and, Bool.or_true, Bool.true_or, Bool.or_false, Bool.false_or, Bool.not_true, Bool.not_false, Bool.false_eq_true, if_true, if_false, reduceIte, decide_true, decide_false])
    all_goals (try (simp_all; done))
  · cases h
def m_spec_l01Less (x0 : (Nat × Nat × Nat)) (x1 : (Nat × Nat × Nat)) : (Nat × Nat × Nat) := ((fsub .f32 x0.1 x1.1), (fsub .f32 x0.2.1 x1.2.1), (fsub .f32 x0.2.2 x1.2.2))
def g_spec_l01Less : List AV → Option AV
  | [.agg [.flt .f32 y0, .flt .f32 y1, .flt .f32 y2], .agg [.flt .f32 y3, .flt .f32 y4, .flt .f32 y5]] => some (AV.agg [(.flt .f32
      (m_spec_l01Less (y0, y1, y2) (y3, y4, y5)).1), (.flt .f32 (m_spec_l01Less (y0, y1, y2) (y3, y4, y5)).2.1), (.flt .f32 (m_spec_l01Less (y0, y1, y2) (y3, y4, y5)).2.2)])
  | _ => none
def ic38 : ICode := (.seq (.reg [⟨(some 2), none, (.box 3 (.t 0))⟩, ⟨(some 3), none, (.box 3 (.t 1))⟩, ⟨(some 4), none, (.alloc (.agg [(.flt .f32 0), (.flt .f32 0), (.flt .f32
      0)]))⟩] [2, 3, 4]) (.seq (.reg [⟨(some 5), none, (.faddr 0 (.t 2))⟩, ⟨(some 6), none, (.load none (.t 5))⟩, ⟨(some 7), none, (.faddr 0 (.t 3))⟩, ⟨(some 8), none, (.load none
      (.t 7))⟩, ⟨(some 9), none, (.bin .sub false (.t 6) (.t 8))⟩, ⟨(some 10), none, (.faddr 1 (.t 2))⟩, ⟨(some 11), none, (.load none (.t 10))⟩, ⟨(some 12), none, (.faddr 1 (.t
      3))⟩, ⟨(some 13), none, (.load none (.t 12))⟩, ⟨(some 14), none, (.bin .sub false (.t 11) (.t 13))⟩, ⟨(some 15), none, (.faddr 2 (.t 2))⟩, ⟨(some 16), none, (.load none (.t
      15))⟩, ⟨(some 17), none, (.faddr 2 (.t 3))⟩, ⟨(some 18), none, (.load none (.t 17))⟩, ⟨(some 19), none, (.bin .sub false (.t 16) (.t 18))⟩, ⟨(some 20), none, (.build [(.flt
      .f32 0), (.flt .f32 0), (.flt .f32 0)] [(0, 1, (.t 9)), (1, 1, (.t 14)), (2, 1, (.t 19))])⟩, ⟨none, none, (.store 3 (.t 4) (.t 20))⟩] [4]) .ret))
def cp38 : CP := { n := 21, kp := [[2, 3, 4], [4]] }
theorem fc38_0 : IntKind.wrap .i64 (-1) = (-1) := by decide
theorem fc38_1 : IntKind.wrap .i64 0 = 0 := by decide
theorem fc38_2 : IntKind.wrap .i64 1 = 1 := by decide
theorem fc38_3 : IntKind.wrap .i64 10 = 10 := by decide
theorem fc38_4 : IntKind.wrap .i64 11 = 11 := by decide
theorem fc38_5 : IntKind.wrap .i64 110 = 110 := by decide
theorem fc38_6 : IntKind.wrap .i64 12 = 12 := by decide
theorem fc38_7 : IntKind.wrap .i64 13 = 13 := by decide
theorem fc38_8 : IntKind.wrap .i64 14 = 14 := by decide
theorem fc38_9 : IntKind.wrap .i64 15 = 15 := by decide
theorem fc38_10 : IntKind.wrap .i64 156 = 156 := by decide
theorem fc38_11 : IntKind.wrap .i64 16 = 16 := by decide
theorem fc38_12 : IntKind.wrap .i64 17 = 17 := by decide
theorem fc38_13 : IntKind.wrap .i64 2 = 2 := by decide
theorem fc38_14 : IntKind.wrap .i64 20 = 20 := by decide
theorem fc38_15 : IntKind.wrap .i64 210 = 210 := by decide
theorem fc38_16 : IntKind.wrap .i64 272 = 272 := by decide
theorem fc38_17 : IntKind.wrap .i64 3 = 3 := by decide
theorem fc38_18 : IntKind.wrap .i64 4 = 4 := by decide
theorem fc38_19 : IntKind.wrap .i64 42 = 42 := by decide
theorem fc38_20 : IntKind.wrap .i64 5 = 5 := by decide
theorem fc38_21 : IntKind.wrap .i64 6 = 6 := by decide
theorem fc38_22 : IntKind.wrap .i64 7 = 7 := by decide
theorem fc38_23 : IntKind.wrap .i64 72 = 72 := by decide
theorem fc38_24 : IntKind.wrap .i64 8 = 8 := by decide
theorem fc38_25 : IntKind.wrap .i64 9 = 9 := by decide
theorem s38 : ∀ vs r, g_spec_l01Less vs = some r → Says Try.prog 38 vs r := by
  intro vs r h
  unfold g_spec_l01Less at h
  split at h
  · rename_i y0 y1 y2 y3 y4 y5
    cases h
    refine spec_of (tab := tabOf []) (cp := cp38) (ic := ic38) (rvl := [(.c 4 (some 3))]) hm tabOk_nil Try.func38 rfl rfl rfl (by kernel_rfl) rfl (Nat.le_of_ble_eq_true rfl) ?_
    show eA _ _ _ _
    unfold ic38
    simp only [
        eA_seq, eA_reg, eA_ret, eA_skip, eA_cond, eA_block, eA_exit, eCc_true, eCc_false, Kq_normal, Kq_ret, Kq_exit, Kb_normal, Kb_exit, Kb_ret, Kreg_eq, eI_nil, bindSt_some,
              bindSt_none, bindSt_ite, eR_eq, eGI_tt, eGI_ff, eGI_tf, eGI_ft, eop, vop, ev_t, ev_c, ev_f, Option.map, put_some, put_none, set_eq, setH_eq, get_eq, hp_eq, keep_cons,
              keep_nil, lk_cons, lk_nil, startSt, envOf, reduceIte, Nat.reduceEqDiff, Nat.reduceAdd, Nat.zero_add, Nat.add_zero, Nat.reduceMul, Nat.reduceLT, Nat.reduceLeDiff, bop,
              uop, intop, fltop, convop, true_or, or_true, Bool.false_eq_true, ret_ok, ret_normal, outV, rvV, rvs, ex_some, pureV, pureX, pureX.pure1', pure1, Bool.true_and,
              Bool.false_and, Bool.and_true, Bool.and_false, Option.isNone_none, AV.cells, AV.one, storable, laid, refless, refless1, List.all_cons, List.all_nil, List.length_cons,
              List.length_nil, List.getElem?_cons_zero, List.getElem?_cons_succ, List.set_cons_zero, List.set_cons_succ, List.set_nil, List.map_cons, List.map_nil, vload, loadC,
              storeC, vnil, vfaddr, vextract, callTo, List.mapM_cons, List.mapM_nil, Option.pure_def, Option.bind_eq_bind, Option.bind_some, tabOf_cons, flatT, flatE, flatC,
              and_self, and_true, true_and, implies_true, forall_const, not_true_eq_false, not_false_eq_true, false_implies, List.take_succ_cons, List.drop_succ_cons,
              List.take_zero, List.drop_zero, Bool.not_true, Bool.not_false, beq_self_eq_true, decide_true, decide_false, eq_self, Int.reduceEq, Int.reduceLE, Int.reduceLT,
              Bool.not_not, Bool.true_or, Bool.or_true, Bool.false_or, Bool.or_false, if_true, if_false, List.getElem?_nil, Kl_normal, Kl_exit, Kl_ret, fc38_0, fc38_1, fc38_2,
              fc38_3, fc38_4, fc38_5, fc38_6, fc38_7, fc38_8, fc38_9, fc38_10, fc38_11, fc38_12, fc38_13, fc38_14, fc38_15, fc38_16, fc38_17, fc38_18, fc38_19, fc38_20, fc38_21,
              fc38_22, fc38_23, fc38_24, fc38_25, cast_lit, toNat_lit, Int.reduceAdd, Int.reduceSub, Int.reduceMul, Int.reduceNeg, Int.reducePow, Nat.reducePow, Int.reduceToNat,
              Nat.reduceSub, Nat.mul_one, Int.toNat_zero, prod_eta, List.nil_append, List.cons_append, List.append_nil, Int.le_refl, Nat.le_refl, true_implies, take_all, vconv, vmm,
              vidxA, viaddrA, iaddr_sl, iaddr_lsl, getE, vfield, vlen, fillC, fillE, List.replicate, elemsOf, List.length_map, f2iK_eq, bits_i64, bits_i32, bits_u64, bits_u32,
              bits_u8, e_alloc, g_alloc, e_box, g_box, e_build, g_build, e_load, g_load, e_store, g_store, e_bin, g_bin, e_faddr, g_faddr, dF32_map, dF64_map, dI64_map, dU8_map,
              dBool_map, dStr_map, decL, dF32, dF64, dI64, dU8, dBool, dStr]
    repeat' (first
      | ((first | (refine eGI_of (fun h => ?_) (fun h => ?_)) | (refine eCc_of (fun h => ?_) (fun h => ?_))) <;> (try simp only [Bool.not_eq_true', Bool.not_eq_false'] at h) <;> simp only [h,
        eA_seq, eA_reg, eA_ret, eA_skip, eA_cond, eA_block, eA_exit, eCc_true, eCc_false, Kq_normal, Kq_ret, Kq_exit, Kb_normal, Kb_exit, Kb_ret, Kreg_eq, eI_nil, bindSt_some,
              bindSt_none, bindSt_ite, eR_eq, eGI_tt, eGI_ff, eGI_tf, eGI_ft, eop, vop, ev_t, ev_c, ev_f, Option.map, put_some, put_none, set_eq, setH_eq, get_eq, hp_eq, keep_cons,
              keep_nil, lk_cons, lk_nil, startSt, envOf, reduceIte, Nat.reduceEqDiff, Nat.reduceAdd, Nat.zero_add, Nat.add_zero, Nat.reduceMul, Nat.reduceLT, Nat.reduceLeDiff, bop,
              uop, intop, fltop, convop, true_or, or_true, Bool.false_eq_true, ret_ok, ret_normal, outV, rvV, rvs, ex_some, pureV, pureX, pureX.pure1', pure1, Bool.true_and,
              Bool.false_and, Bool.and_true, Bool.and_false, Option.isNone_none, AV.cells, AV.one, storable, laid, refless, refless1, List.all_cons, List.all_nil, List.length_cons,
              List.length_nil, List.getElem?_cons_zero, List.getElem?_cons_succ, List.set_cons_zero, List.set_cons_succ, List.set_nil, List.map_cons, List.map_nil, vload, loadC,
              storeC, vnil, vfaddr, vextract, callTo, List.mapM_cons, List.mapM_nil, Option.pure_def, Option.bind_eq_bind, Option.bind_some, tabOf_cons, flatT, flatE, flatC,
              and_self, and_true, true_and, implies_true, forall_const, not_true_eq_false, not_false_eq_true, false_implies, List.take_succ_cons, List.drop_succ_cons,
              List.take_zero, List.drop_zero, Bool.not_true, Bool.not_false, beq_self_eq_true, decide_true, decide_false, eq_self, Int.reduceEq, Int.reduceLE, Int.reduceLT,
              Bool.not_not, Bool.true_or, Bool.or_true, Bool.false_or, Bool.or_false, if_true, if_false, List.getElem?_nil, Kl_normal, Kl_exit, Kl_ret, fc38_0, fc38_1, fc38_2,
              fc38_3, fc38_4, fc38_5, fc38_6, fc38_7, fc38_8, fc38_9, fc38_10, fc38_11, fc38_12, fc38_13, fc38_14, fc38_15, fc38_16, fc38_17, fc38_18, fc38_19, fc38_20, fc38_21,
              fc38_22, fc38_23, fc38_24, fc38_25, cast_lit, toNat_lit, Int.reduceAdd, Int.reduceSub, Int.reduceMul, Int.reduceNeg, Int.reducePow, Nat.reducePow, Int.reduceToNat,
              Nat.reduceSub, Nat.mul_one, Int.toNat_zero, prod_eta, List.nil_append, List.cons_append, List.append_nil, Int.le_refl, Nat.le_refl, true_implies, take_all, vconv, vmm,
              vidxA, viaddrA, iaddr_sl, iaddr_lsl, getE, vfield, vlen, fillC, fillE, List.replicate, elemsOf, List.length_map, f2iK_eq, bits_i64, bits_i32, bits_u64, bits_u32,
              bits_u8, e_alloc, g_alloc, e_box, g_box, e_build, g_build, e_load, g_load, e_store, g_store, e_bin, g_bin, e_faddr, g_faddr, dF32_map, dF64_map, dI64_map, dU8_map,
              dBool_map, dStr_map, decL, dF32, dF64, dI64, dU8, dBool, dStr]))
    all_goals (try simp only [*, m_spec_l01Less, Bool.and_true, Bool.true_and, Bool.and_false, Bool.false_and, Bool.or_true, Bool.true_or, Bool.or_false, Bool.false_or, Bool.not_true, Bool.not_false, Bool.false_eq_true, if_true, if_false, reduceIte, decide_true, decide_false])
    all_goals (try (simp_all; done))
  · cases h
def m_spec_l01Inner (x0 : (Nat × Nat × Nat)) (x1 : (Nat × Nat × Nat)) : Nat := (fadd .f32 (fadd .f32 (fmul .f32 x0.1 x1.1) (fmul .f32 x0.2.1 x1.2.1)) (fmul .f32 x0.2.2 x1.2.2))
def g_spec_l01Inner : List AV → Option AV
  | [.agg [.flt .f32 y0, .flt .f32 y1, .flt .f32 y2], .agg [.flt .f32 y3, .flt .f32 y4, .flt .f32 y5]] => some (.flt .f32 (m_spec_l01Inner
      (y0, y1, y2) (y3, y4, y5)))
  | _ => none
def ic40 : ICode := (.seq (.reg [⟨(some 2), none, (.box 3 (.t 0))⟩, ⟨(some 3), none, (.box 3 (.t 1))⟩, ⟨(some 4), none, (.mov (.c (.flt .f32 0)))⟩] [2, 3]) (.seq (.reg [⟨(some 5),
      none, (.faddr 0 (.t 2))⟩, ⟨(some 6), none, (.load none (.t 5))⟩, ⟨(some 7), none, (.faddr 0 (.t 3))⟩, ⟨(some 8), none, (.load none (.t 7))⟩, ⟨(some 9), none, (.bin .mul false
      (.t 6) (.t 8))⟩, ⟨(some 10), none, (.faddr 1 (.t 2))⟩, ⟨(some 11), none, (.load none (.t 10))⟩, ⟨(some 12), none, (.faddr 1 (.t 3))⟩, ⟨(some 13), none, (.load none (.t 12))⟩,
      ⟨(some 14), none, (.bin .mul false (.t 11) (.t 13))⟩, ⟨(some 15), none, (.bin .add false (.t 9) (.t 14))⟩, ⟨(some 16), none, (.faddr 2 (.t 2))⟩, ⟨(some 17), none, (.load none
      (.t 16))⟩, ⟨(some 18), none, (.faddr 2 (.t 3))⟩, ⟨(some 19), none, (.load none (.t 18))⟩, ⟨(some 20), none, (.bin .mul false (.t 17) (.t 19))⟩, ⟨(some 21), none, (.bin .add
      false (.t 15) (.t 20))⟩, ⟨(some 4), none, (.mov (.t 21))⟩] [4]) .ret))
def cp40 : CP := { n := 22, kp := [[2, 3], [4]] }
theorem fc40_0 : IntKind.wrap .i64 (-1) = (-1) := by decide
theorem fc40_1 : IntKind.wrap .i64 0 = 0 := by decide
theorem fc40_2 : IntKind.wrap .i64 1 = 1 := by decide
theorem fc40_3 : IntKind.wrap .i64 10 = 10 := by decide
theorem fc40_4 : IntKind.wrap .i64 11 = 11 := by decide
theorem fc40_5 : IntKind.wrap .i64 110 = 110 := by decide
theorem fc40_6 : IntKind.wrap .i64 12 = 12 := by decide
theorem fc40_7 : IntKind.wrap .i64 13 = 13 := by decide
theorem fc40_8 : IntKind.wrap .i64 14 = 14 := by decide
theorem fc40_9 : IntKind.wrap .i64 15 = 15 := by decide
theorem fc40_10 : IntKind.wrap .i64 156 = 156 := by decide
theorem fc40_11 : IntKind.wrap .i64 16 = 16 := by decide
theorem fc40_12 : IntKind.wrap .i64 17 = 17 := by decide
theorem fc40_13 : IntKind.wrap .i64 2 = 2 := by decide
theorem fc40_14 : IntKind.wrap .i64 20 = 20 := by decide
theorem fc40_15 : IntKind.wrap .i64 210 = 210 := by decide
theorem fc40_16 : IntKind.wrap .i64 272 = 272 := by decide
theorem fc40_17 : IntKind.wrap .i64 3 = 3 := by decide
theorem fc40_18 : IntKind.wrap .i64 4 = 4 := by decide
theorem fc40_19 : IntKind.wrap .i64 42 = 42 := by decide
theorem fc40_20 : IntKind.wrap .i64 5 = 5 := by decide
theorem fc40_21 : IntKind.wrap .i64 6 = 6 := by decide
theorem fc40_22 : IntKind.wrap .i64 7 = 7 := by decide
theorem fc40_23 : IntKind.wrap .i64 72 = 72 := by decide
theorem fc40_24 : IntKind.wrap .i64 8 = 8 := by decide
theorem fc40_25 : IntKind.wrap .i64 9 = 9 := by decide
theorem s40 : ∀ vs r, g_spec_l01Inner vs = some r → Says Try.prog 40 vs r := by
  intro vs r h
  unfold g_spec_l01Inner at h
  split at h
  · rename_i y0 y1 y2 y3 y4 y5
    cases h
    refine spec_of (tab := tabOf []) (cp := cp40) (ic := ic40) (rvl := [(.t 4)]) hm tabOk_nil Try.func40 rfl rfl rfl (by kernel_rfl) rfl (Nat.le_of_ble_eq_true rfl) ?_
    show eA _ _ _ _
    unfold ic40
    simp only [
        eA_seq, eA_reg, eA_ret, eA_skip, eA_cond, eA_block, eA_exit, eCc_true, eCc_false, Kq_normal, Kq_ret, Kq_exit, Kb_normal, Kb_exit, Kb_ret, Kreg_eq, eI_nil, bindSt_some,
              bindSt_none, bindSt_ite, eR_eq, eGI_tt, eGI_ff, eGI_tf, eGI_ft, eop, vop, ev_t, ev_c, ev_f, Option.map, put_some, put_none, set_eq, setH_eq, get_eq, hp_eq, keep_cons,
              keep_nil, lk_cons, lk_nil, startSt, envOf, reduceIte, Nat.reduceEqDiff, Nat.reduceAdd, Nat.zero_add, Nat.add_zero, Nat.reduceMul, Nat.reduceLT, Nat.reduceLeDiff, bop,
              uop, intop, fltop, convop, true_or, or_true, Bool.false_eq_true, ret_ok, ret_normal, outV, rvV, rvs, ex_some, pureV, pureX, pureX.pure1', pure1, Bool.true_and,
              Bool.false_and, Bool.and_true, Bool.and_false, Option.isNone_none, AV.cells, AV.one, storable, laid, refless, refless1, List.all_cons, List.all_nil, List.length_cons,
              List.length_nil, List.getElem?_cons_zero, List.getElem?_cons_succ, List.set_cons_zero, List.set_cons_succ, List.set_nil, List.map_cons, List.map_nil, vload, loadC,
              storeC, vnil, vfaddr, vextract, callTo, List.mapM_cons, List.mapM_nil, Option.pure_def, Option.bind_eq_bind, Option.bind_some, tabOf_cons, flatT, flatE, flatC,
              and_self, and_true, true_and, implies_true, forall_const, not_true_eq_false, not_false_eq_true, false_implies, List.take_succ_cons, List.drop_succ_cons,
              List.take_zero, List.drop_zero, Bool.not_true, Bool.not_false, beq_self_eq_true, decide_true, decide_false, eq_self, Int.reduceEq, Int.reduceLE, Int.reduceLT,
              Bool.not_not, Bool.true_or, Bool.or_true, Bool.false_or, Bool.or_false, if_true, if_false, List.getElem?_nil, Kl_normal, Kl_exit, Kl_ret, fc40_0, fc40_1, fc40_2,
              fc40_3, fc40_4, fc40_5, fc40_6, fc40_7, fc40_8, fc40_9, fc40_10, fc40_11, fc40_12, fc40_13, fc40_14, fc40_15, fc40_16, fc40_17, fc40_18, fc40_19, fc40_20, fc40_21,
              fc40_22, fc40_23, fc40_24, fc40_25, cast_lit, toNat_lit, Int.reduceAdd, Int.reduceSub, Int.reduceMul, Int.reduceNeg, Int.reducePow, Nat.reducePow, Int.reduceToNat,
              Nat.reduceSub, Nat.mul_one, Int.toNat_zero, prod_eta, List.nil_append, List.cons_append, List.append_nil, Int.le_refl, Nat.le_refl, true_implies, take_all, vconv, vmm,
              vidxA, viaddrA, iaddr_sl, iaddr_lsl, getE, vfield, vlen, fillC, fillE, List.replicate, elemsOf, List.length_map, f2iK_eq, bits_i64, bits_i32, bits_u64, bits_u32,
              bits_u8, e_mov, g_mov, e_box, g_box, e_load, g_load, e_bin, g_bin, e_faddr, g_faddr, dF32_map, dF64_map, dI64_map, dU8_map, dBool_map, dStr_map, decL, dF32, dF64,
              dI64, dU8, dBool, dStr]
    repeat' (first
      | ((first | (refine eGI_of (fun h => ?_) (fun h => ?_)) | (refine eCc_of (fun h => ?_) (fun h => ?_))) <;> (try simp only [Bool.not_eq_true', Bool.not_eq_false'] at h) <;> simp only [h,
        eA_seq, eA_reg, eA_ret, eA_skip, eA_cond, eA_block, eA_exit, eCc_true, eCc_false, Kq_normal, Kq_ret, Kq_exit, Kb_normal, Kb_exit, Kb_ret, Kreg_eq, eI_nil, bindSt_some,
              bindSt_none, bindSt_ite, eR_eq, eGI_tt, eGI_ff, eGI_tf, eGI_ft, eop, vop, ev_t, ev_c, ev_f, Option.map, put_some, put_none, set_eq, setH_eq, get_eq, hp_eq, keep_cons,
              keep_nil, lk_cons, lk_nil, startSt, envOf, reduceIte, Nat.reduceEqDiff, Nat.reduceAdd, Nat.zero_add, Nat.add_zero, Nat.reduceMul, Nat.reduceLT, Nat.reduceLeDiff, bop,
              uop, intop, fltop, convop, true_or, or_true, Bool.false_eq_true, ret_ok, ret_normal, outV, rvV, rvs, ex_some, pureV, pureX, pureX.pure1', pure1, Bool.true_and,
              Bool.false_and, Bool.and_true, Bool.and_false, Option.isNone_none, AV.cells, AV.one, storable, laid, refless, refless1, List.all_cons, List.all_nil, List.length_cons,
              List.length_nil, List.getElem?_cons_zero, List.getElem?_cons_succ, List.set_cons_zero, List.set_cons_succ, List.set_nil, List.map_cons, List.map_nil, vload, loadC,
              storeC, vnil, vfaddr, vextract, callTo, List.mapM_cons, List.mapM_nil, Option.pure_def, Option.bind_eq_bind, Option.bind_some, tabOf_cons, flatT, flatE, flatC,
              and_self, and_true, true_and, implies_true, forall_const, not_true_eq_false, not_false_eq_true, false_implies, List.take_succ_cons, List.drop_succ_cons,
              List.take_zero, List.drop_zero, Bool.not_true, Bool.not_false, beq_self_eq_true, decide_true, decide_false, eq_self, Int.reduceEq, Int.reduceLE, Int.reduceLT,
              Bool.not_not, Bool.true_or, Bool.or_true, Bool.false_or, Bool.or_false, if_true, if_false, List.getElem?_nil, Kl_normal, Kl_exit, Kl_ret, fc40_0, fc40_1, fc40_2,
              fc40_3, fc40_4, fc40_5, fc40_6, fc40_7, fc40_8, fc40_9, fc40_10, fc40_11, fc40_12, fc40_13, fc40_14, fc40_15, fc40_16, fc40_17, fc40_18, fc40_19, fc40_20, fc40_21,
              fc40_22, fc40_23, fc40_24, fc40_25, cast_lit, toNat_lit, Int.reduceAdd, Int.reduceSub, Int.reduceMul, Int.reduceNeg, Int.reducePow, Nat.reducePow, Int.reduceToNat,
              Nat.reduceSub, Nat.mul_one, Int.toNat_zero, prod_eta, List.nil_append, List.cons_append, List.append_nil, Int.le_refl, Nat.le_refl, true_implies, take_all, vconv, vmm,
              vidxA, viaddrA, iaddr_sl, iaddr_lsl, getE, vfield, vlen, fillC, fillE, List.replicate, elemsOf, List.length_map, f2iK_eq, bits_i64, bits_i32, bits_u64, bits_u32,
              bits_u8, e_mov, g_mov, e_box, g_box, e_load, g_load, e_bin, g_bin, e_faddr, g_faddr, dF32_map, dF64_map, dI64_map, dU8_map, dBool_map, dStr_map, decL, dF32, dF64,
              dI64, dU8, dBool, dStr]))
    all_goals (try simp only [*, m_spec_l01Inner, Bool.and_true, Bool.true_and, Bool.and_false, Bool.false_and, Bool.or_true, Bool.true_or, Bool.or_false, Bool.false_or, Bool.not_true, Bool.not_false, Bool.false_eq_true, if_true, if_false, reduceIte, decide_true, decide_false])
    all_goals (try (simp_all; done))
  · cases h
theorem s72 : ∀ vs r, g_sqrt vs = some r → Says Try.prog 72 vs r := t_sqrt Try.func72 (by kernel_rfl) rfl (by kernel_rfl) (by kernel_rfl)
def m_math_Sqrt (x0 : Nat) : Nat := (fsqrt x0)
def g_math_Sqrt : List AV → Option AV
  | [.flt .f64 y0] => some (.flt .f64 (m_math_Sqrt y0))
  | _ => none
def ic53 : ICode := (.seq (.reg [⟨(some 2), none, (.mov (.c (.flt .f64 0)))⟩] [0]) (.seq (.reg [⟨(some 3), none, (.mov (.t 0))⟩, ⟨(some 4), none, (.call (.fn 72) [(.t 3)] [])⟩,
      ⟨(some 2), none, (.mov (.t 4))⟩] [2]) .ret))
def cp53 : CP := { n := 5, kp := [[0], [2]] }
theorem fc53_0 : IntKind.wrap .i64 (-1) = (-1) := by decide
theorem fc53_1 : IntKind.wrap .i64 0 = 0 := by decide
theorem fc53_2 : IntKind.wrap .i64 1 = 1 := by decide
theorem fc53_3 : IntKind.wrap .i64 10 = 10 := by decide
theorem fc53_4 : IntKind.wrap .i64 11 = 11 := by decide
theorem fc53_5 : IntKind.wrap .i64 110 = 110 := by decide
theorem fc53_6 : IntKind.wrap .i64 12 = 12 := by decide
theorem fc53_7 : IntKind.wrap .i64 13 = 13 := by decide
theorem fc53_8 : IntKind.wrap .i64 14 = 14 := by decide
theorem fc53_9 : IntKind.wrap .i64 15 = 15 := by decide
theorem fc53_10 : IntKind.wrap .i64 156 = 156 := by decide
theorem fc53_11 : IntKind.wrap .i64 16 = 16 := by decide
theorem fc53_12 : IntKind.wrap .i64 17 = 17 := by decide
theorem fc53_13 : IntKind.wrap .i64 2 = 2 := by decide
theorem fc53_14 : IntKind.wrap .i64 20 = 20 := by decide
theorem fc53_15 : IntKind.wrap .i64 210 = 210 := by decide
theorem fc53_16 : IntKind.wrap .i64 272 = 272 := by decide
theorem fc53_17 : IntKind.wrap .i64 3 = 3 := by decide
theorem fc53_18 : IntKind.wrap .i64 4 = 4 := by decide
theorem fc53_19 : IntKind.wrap .i64 42 = 42 := by decide
theorem fc53_20 : IntKind.wrap .i64 5 = 5 := by decide
theorem fc53_21 : IntKind.wrap .i64 6 = 6 := by decide
theorem fc53_22 : IntKind.wrap .i64 7 = 7 := by decide
theorem fc53_23 : IntKind.wrap .i64 72 = 72 := by decide
theorem fc53_24 : IntKind.wrap .i64 8 = 8 := by decide
theorem fc53_25 : IntKind.wrap .i64 9 = 9 := by decide
theorem s53 : ∀ vs r, g_math_Sqrt vs = some r → Says Try.prog 53 vs r := by
  intro vs r h
  unfold g_math_Sqrt at h
  split at h
  · rename_i y0
    cases h
    refine spec_of (tab := tabOf [(72, g_sqrt)]) (cp := cp53) (ic := ic53) (rvl := [(.t 2)]) hm (tabOk_cons s72 tabOk_nil) Try.func53 rfl rfl rfl (by kernel_rfl) rfl (Nat.le_of_ble_eq_true rfl) ?_
    show eA _ _ _ _
    unfold ic53
    simp only [
        eA_seq, eA_reg, eA_ret, eA_skip, eA_cond, eA_block, eA_exit, eCc_true, eCc_false, Kq_normal, Kq_ret, Kq_exit, Kb_normal, Kb_exit, Kb_ret, Kreg_eq, eI_nil, bindSt_some,
              bindSt_none, bindSt_ite, eR_eq, eGI_tt, eGI_ff, eGI_tf, eGI_ft, eop, vop, ev_t, ev_c, ev_f, Option.map, put_some, put_none, set_eq, setH_eq, get_eq, hp_eq, keep_cons,
              keep_nil, lk_cons, lk_nil, startSt, envOf, reduceIte, Nat.reduceEqDiff, Nat.reduceAdd, Nat.zero_add, Nat.add_zero, Nat.reduceMul, Nat.reduceLT, Nat.reduceLeDiff, bop,
              uop, intop, fltop, convop, true_or, or_true, Bool.false_eq_true, ret_ok, ret_normal, outV, rvV, rvs, ex_some, pureV, pureX, pureX.pure1', pure1, Bool.true_and,
              Bool.false_and, Bool.and_true, Bool.and_false, Option.isNone_none, AV.cells, AV.one, storable, laid, refless, refless1, List.all_cons, List.all_nil, List.length_cons,
              List.length_nil, List.getElem?_cons_zero, List.getElem?_cons_succ, List.set_cons_zero, List.set_cons_succ, List.set_nil, List.map_cons, List.map_nil, vload, loadC,
              storeC, vnil, vfaddr, vextract, callTo, List.mapM_cons, List.mapM_nil, Option.pure_def, Option.bind_eq_bind, Option.bind_some, tabOf_cons, flatT, flatE, flatC,
              and_self, and_true, true_and, implies_true, forall_const, not_true_eq_false, not_false_eq_true, false_implies, List.take_succ_cons, List.drop_succ_cons,
              List.take_zero, List.drop_zero, Bool.not_true, Bool.not_false, beq_self_eq_true, decide_true, decide_false, eq_self, Int.reduceEq, Int.reduceLE, Int.reduceLT,
              Bool.not_not, Bool.true_or, Bool.or_true, Bool.false_or, Bool.or_false, if_true, if_false, List.getElem?_nil, Kl_normal, Kl_exit, Kl_ret, fc53_0, fc53_1, fc53_2,
              fc53_3, fc53_4, fc53_5, fc53_6, fc53_7, fc53_8, fc53_9, fc53_10, fc53_11, fc53_12, fc53_13, fc53_14, fc53_15, fc53_16, fc53_17, fc53_18, fc53_19, fc53_20, fc53_21,
              fc53_22, fc53_23, fc53_24, fc53_25, cast_lit, toNat_lit, Int.reduceAdd, Int.reduceSub, Int.reduceMul, Int.reduceNeg, Int.reducePow, Nat.reducePow, Int.reduceToNat,
              Nat.reduceSub, Nat.mul_one, Int.toNat_zero, prod_eta, List.nil_append, List.cons_append, List.append_nil, Int.le_refl, Nat.le_refl, true_implies, take_all, vconv, vmm,
              vidxA, viaddrA, iaddr_sl, iaddr_lsl, getE, vfield, vlen, fillC, fillE, List.replicate, elemsOf, List.length_map, f2iK_eq, bits_i64, bits_i32, bits_u64, bits_u32,
              bits_u8, e_mov, g_mov, e_call, g_call, g_sqrt, dF32_map, dF64_map, dI64_map, dU8_map, dBool_map, dStr_map, decL, dF32, dF64, dI64, dU8, dBool, dStr]
    repeat' (first
      | ((first | (refine eGI_of (fun h => ?_) (fun h => ?_)) | (refine eCc_of (fun h => ?_) (fun h => ?_))) <;> (try simp only [Bool.not_eq_true', Bool.not_eq_false'] at h) <;> simp only [h,
        eA_seq, eA_reg, eA_ret, eA_skip, eA_cond, eA_block, eA_exit, eCc_true, eCc_false, Kq_normal, Kq_ret, Kq_exit, Kb_normal, Kb_exit, Kb_ret, Kreg_eq, eI_nil, bindSt_some,
              bindSt_none, bindSt_ite, eR_eq, eGI_tt, eGI_ff, eGI_tf, eGI_ft, eop, vop, ev_t, ev_c, ev_f, Option.map, put_some, put_none, set_eq, setH_eq, get_eq, hp_eq, keep_cons,
              keep_nil, lk_cons, lk_nil, startSt, envOf, reduceIte, Nat.reduceEqDiff, Nat.reduceAdd, Nat.zero_add, Nat.add_zero, Nat.reduceMul, Nat.reduceLT, Nat.reduceLeDiff, bop,
              uop, intop, fltop, convop, true_or, or_true, Bool.false_eq_true, ret_ok, ret_normal, outV, rvV, rvs, ex_some, pureV, pureX, pureX.pure1', pure1, Bool.true_and,
              Bool.false_and, Bool.and_true, Bool.and_false, Option.isNone_none, AV.cells, AV.one, storable, laid, refless, refless1, List.all_cons, List.all_nil, List.length_cons,
              List.length_nil, List.getElem?_cons_zero, List.getElem?_cons_succ, List.set_cons_zero, List.set_cons_succ, List.set_nil, List.map_cons, List.map_nil, vload, loadC,
              storeC, vnil, vfaddr, vextract, callTo, List.mapM_cons, List.mapM_nil, Option.pure_def, Option.bind_eq_bind, Option.bind_some, tabOf_cons, flatT, flatE, flatC,
              and_self, and_true, true_and, implies_true, forall_const, not_true_eq_false, not_false_eq_true, false_implies, List.take_succ_cons, List.drop_succ_cons,
              List.take_zero, List.drop_zero, Bool.not_true, Bool.not_false, beq_self_eq_true, decide_true, decide_false, eq_self, Int.reduceEq, Int.reduceLE, Int.reduceLT,
              Bool.not_not, Bool.true_or, Bool.or_true, Bool.false_or, Bool.or_false, if_true, if_false, List.getElem?_nil, Kl_normal, Kl_exit, Kl_ret, fc53_0, fc53_1, fc53_2,
              fc53_3, fc53_4, fc53_5, fc53_6, fc53_7, fc53_8, fc53_9, fc53_10, fc53_11, fc53_12, fc53_13, fc53_14, fc53_15, fc53_16, fc53_17, fc53_18, fc53_19, fc53_20, fc53_21,
              fc53_22, fc53_23, fc53_24, fc53_25, cast_lit, toNat_lit, Int.reduceAdd, Int.reduceSub, Int.reduceMul, Int.reduceNeg, Int.reducePow, Nat.reducePow, Int.reduceToNat,
              Nat.reduceSub, Nat.mul_one, Int.toNat_zero, prod_eta, List.nil_append, List.cons_append, List.append_nil, Int.le_refl, Nat.le_refl, true_implies, take_all, vconv, vmm,
              vidxA, viaddrA, iaddr_sl, iaddr_lsl, getE, vfield, vlen, fillC, fillE, List.replicate, elemsOf, List.length_map, f2iK_eq, bits_i64, bits_i32, bits_u64, bits_u32,
              bits_u8, e_mov, g_mov, e_call, g_call, g_sqrt, dF32_map, dF64_map, dI64_map, dU8_map, dBool_map, dStr_map, decL, dF32, dF64, dI64, dU8, dBool, dStr]))
    all_goals (try simp only [*, m_math_Sqrt, Bool.and_true, Bool.true_and, Bool.and_false, Bool.false_and, Bool.or_true, Bool.true_or, Bool.or_false, Bool.false_or, Bool.not_true, Bool.not_false, Bool.false_eq_true, if_true, if_false, reduceIte, decide_true, decide_false])
    all_goals (try (simp_all; done))
  · cases h
def m_spec_l01Narrow (x0 : Nat) : Nat := (narrow x0)
def p_spec_l01Narrow (x0 : Nat) : Bool := (narrowOk x0)
def g_spec_l01Narrow : List AV → Option AV
  | [.flt .f64 y0] => if p_spec_l01Narrow y0 = true then some (.flt .f32 (m_spec_l01Narrow y0)) else none
  | _ => none
def ic61 : ICode := (.seq (.reg [⟨(some 2), none, (.mov (.c (.flt .f32 0)))⟩] [0]) (.seq (.reg [⟨(some 3), none, (.mov (.t 0))⟩, ⟨(some 4), none, (.conv (.flt .f32) (.t 3))⟩, ⟨(some
      2), none, (.mov (.t 4))⟩] [2]) .ret))
def cp61 : CP := { n := 5, kp := [[0], [2]] }
theorem fc61_0 : IntKind.wrap .i64 (-1) = (-1) := by decide
theorem fc61_1 : IntKind.wrap .i64 0 = 0 := by decide
theorem fc61_2 : IntKind.wrap .i64 1 = 1 := by decide
theorem fc61_3 : IntKind.wrap .i64 10 = 10 := by decide
theorem fc61_4 : IntKind.wrap .i64 11 = 11 := by decide
theorem fc61_5 : IntKind.wrap .i64 110 = 110 := by decide
theorem fc61_6 : IntKind.wrap .i64 12 = 12 := by decide
theorem fc61_7 : IntKind.wrap .i64 13 = 13 := by decide
theorem fc61_8 : IntKind.wrap .i64 14 = 14 := by decide
theorem fc61_9 : IntKind.wrap .i64 15 = 15 := by decide
theorem fc61_10 : IntKind.wrap .i64 156 = 156 := by decide
theorem fc61_11 : IntKind.wrap .i64 16 = 16 := by decide
theorem fc61_12 : IntKind.wrap .i64 17 = 17 := by decide
theorem fc61_13 : IntKind.wrap .i64 2 = 2 := by decide
theorem fc61_14 : IntKind.wrap .i64 20 = 20 := by decide
theorem fc61_15 : IntKind.wrap .i64 210 = 210 := by decide
theorem fc61_16 : IntKind.wrap .i64 272 = 272 := by decide
theorem fc61_17 : IntKind.wrap .i64 3 = 3 := by decide
theorem fc61_18 : IntKind.wrap .i64 4 = 4 := by decide
theorem fc61_19 : IntKind.wrap .i64 42 = 42 := by decide
theorem fc61_20 : IntKind.wrap .i64 5 = 5 := by decide
theorem fc61_21 : IntKind.wrap .i64 6 = 6 := by decide
theorem fc61_22 : IntKind.wrap .i64 7 = 7 := by decide
theorem fc61_23 : IntKind.wrap .i64 72 = 72 := by decide
theorem fc61_24 : IntKind.wrap .i64 8 = 8 := by decide
theorem fc61_25 : IntKind.wrap .i64 9 = 9 := by decide
theorem s61 : ∀ vs r, g_spec_l01Narrow vs = some r → Says Try.prog 61 vs r := by
  intro vs r h
  unfold g_spec_l01Narrow at h
  split at h
  · rename_i y0
    split at h
    · rename_i hp
      cases h
      refine spec_of (tab := tabOf []) (cp := cp61) (ic := ic61) (rvl := [(.t 2)]) hm tabOk_nil Try.func61 rfl rfl rfl (by kernel_rfl) rfl (Nat.le_of_ble_eq_true rfl) ?_
      show eA _ _ _ _
      unfold ic61
      simp only [p_spec_l01Narrow, Bool.and_eq_true, Bool.or_eq_true, decide_eq_true_eq, Bool.not_eq_true', decide_eq_false_iff_not] at hp
      simp only [
          hp, eA_seq, eA_reg, eA_ret, eA_skip, eA_cond, eA_block, eA_exit, eCc_true, eCc_false, Kq_normal, Kq_ret, Kq_exit, Kb_normal, Kb_exit, Kb_ret, Kreg_eq, eI_nil, bindSt_some,
                bindSt_none, bindSt_ite, eR_eq, eGI_tt, eGI_ff, eGI_tf, eGI_ft, eop, vop, ev_t, ev_c, ev_f, Option.map, put_some, put_none, set_eq, setH_eq, get_eq, hp_eq,
                keep_cons, keep_nil, lk_cons, lk_nil, startSt, envOf, reduceIte, Nat.reduceEqDiff, Nat.reduceAdd, Nat.zero_add, Nat.add_zero, Nat.reduceMul, Nat.reduceLT,
                Nat.reduceLeDiff, bop, uop, intop, fltop, convop, true_or, or_true, Bool.false_eq_true, ret_ok, ret_normal, outV, rvV, rvs, ex_some, pureV, pureX, pureX.pure1',
                pure1, Bool.true_and, Bool.false_and, Bool.and_true, Bool.and_false, Option.isNone_none, AV.cells, AV.one, storable, laid, refless, refless1, List.all_cons,
                List.all_nil, List.length_cons, List.length_nil, List.getElem?_cons_zero, List.getElem?_cons_succ, List.set_cons_zero, List.set_cons_succ, List.set_nil,
                List.map_cons, List.map_nil, vload, loadC, storeC, vnil, vfaddr, vextract, callTo, List.mapM_cons, List.mapM_nil, Option.pure_def, Option.bind_eq_bind,
                Option.bind_some, tabOf_cons, flatT, flatE, flatC, and_self, and_true, true_and, implies_true, forall_const, not_true_eq_false, not_false_eq_true, false_implies,
                List.take_succ_cons, List.drop_succ_cons, List.take_zero, List.drop_zero, Bool.not_true, Bool.not_false, beq_self_eq_true, decide_true, decide_false, eq_self,
                Int.reduceEq, Int.reduceLE, Int.reduceLT, Bool.not_not, Bool.true_or, Bool.or_true, Bool.false_or, Bool.or_false, if_true, if_false, List.getElem?_nil, Kl_normal,
                Kl_exit, Kl_ret, fc61_0, fc61_1, fc61_2, fc61_3, fc61_4, fc61_5, fc61_6, fc61_7, fc61_8, fc61_9, fc61_10, fc61_11, fc61_12, fc61_13, fc61_14, fc61_15, fc61_16,
                fc61_17, fc61_18, fc61_19, fc61_20, fc61_21, fc61_22, fc61_23, fc61_24, fc61_25, cast_lit, toNat_lit, Int.reduceAdd, Int.reduceSub, Int.reduceMul, Int.reduceNeg,
                Int.reducePow, Nat.reducePow, Int.reduceToNat, Nat.reduceSub, Nat.mul_one, Int.toNat_zero, prod_eta, List.nil_append, List.cons_append, List.append_nil, Int.le_refl,
                Nat.le_refl, true_implies, take_all, vconv, vmm, vidxA, viaddrA, iaddr_sl, iaddr_lsl, getE, vfield, vlen, fillC, fillE, List.replicate, elemsOf, List.length_map,
                f2iK_eq, bits_i64, bits_i32, bits_u64, bits_u32, bits_u8, e_mov, g_mov, e_conv, g_conv, dF32_map, dF64_map, dI64_map, dU8_map, dBool_map, dStr_map, decL, dF32, dF64,
                dI64, dU8, dBool, dStr]
      repeat' (first
        | ((first | (refine eGI_of (fun h => ?_) (fun h => ?_)) | (refine eCc_of (fun h => ?_) (fun h => ?_))) <;> (try simp only [Bool.not_eq_true', Bool.not_eq_false'] at h) <;> (try simp only [h, reduceCtorEq, Bool.not_eq_true', decide_eq_false_iff_not, Bool.not_true, Bool.not_false, Bool.false_or, Bool.true_or, Bool.true_and, Bool.false_and, Bool.and_eq_true, Bool.or_eq_true, if_true, if_false, reduceIte, Bool.false_eq_true, and_true, true_and, false_or, or_false, decide_eq_true_eq, not_false_eq_true, not_true_eq_false] at hp) <;> (try (have h2 := h; simp only [decide_eq_true_eq, decide_eq_false_iff_not] at h2; (first | (replace h2 := eq_false h2) | (replace h2 := eq_true h2)); simp only [h2, if_true, if_false, false_or, true_or, or_true, or_false, and_true, true_and, not_false_eq_true, not_true_eq_false] at hp)) <;> simp only [h,
          hp, eA_seq, eA_reg, eA_ret, eA_skip, eA_cond, eA_block, eA_exit, eCc_true, eCc_false, Kq_normal, Kq_ret, Kq_exit, Kb_normal, Kb_exit, Kb_ret, Kreg_eq, eI_nil, bindSt_some,
                bindSt_none, bindSt_ite, eR_eq, eGI_tt, eGI_ff, eGI_tf, eGI_ft, eop, vop, ev_t, ev_c, ev_f, Option.map, put_some, put_none, set_eq, setH_eq, get_eq, hp_eq,
                keep_cons, keep_nil, lk_cons, lk_nil, startSt, envOf, reduceIte, Nat.reduceEqDiff, Nat.reduceAdd, Nat.zero_add, Nat.add_zero, Nat.reduceMul, Nat.reduceLT,
                Nat.reduceLeDiff, bop, uop, intop, fltop, convop, true_or, or_true, Bool.false_eq_true, ret_ok, ret_normal, outV, rvV, rvs, ex_some, pureV, pureX, pureX.pure1',
                pure1, Bool.true_and, Bool.false_and, Bool.and_true, Bool.and_false, Option.isNone_none, AV.cells, AV.one, storable, laid, refless, refless1, List.all_cons,
                List.all_nil, List.length_cons, List.length_nil, List.getElem?_cons_zero, List.getElem?_cons_succ, List.set_cons_zero, List.set_cons_succ, List.set_nil,
                List.map_cons, List.map_nil, vload, loadC, storeC, vnil, vfaddr, vextract, callTo, List.mapM_cons, List.mapM_nil, Option.pure_def, Option.bind_eq_bind,
                Option.bind_some, tabOf_cons, flatT, flatE, flatC, and_self, and_true, true_and, implies_true, forall_const, not_true_eq_false, not_false_eq_true, false_implies,
                List.take_succ_cons, List.drop_succ_cons, List.take_zero, List.drop_zero, Bool.not_true, Bool.not_false, beq_self_eq_true, decide_true, decide_false, eq_self,
                Int.reduceEq, Int.reduceLE, Int.reduceLT, Bool.not_not, Bool.true_or, Bool.or_true, Bool.false_or, Bool.or_false, if_true, if_false, List.getElem?_nil, Kl_normal,
                Kl_exit, Kl_ret, fc61_0, fc61_1, fc61_2, fc61_3, fc61_4, fc61_5, fc61_6, fc61_7, fc61_8, fc61_9, fc61_10, fc61_11, fc61_12, fc61_13, fc61_14, fc61_15, fc61_16,
                fc61_17, fc61_18, fc61_19, fc61_20, fc61_21, fc61_22, fc61_23, fc61_24, fc61_25, cast_lit, toNat_lit, Int.reduceAdd, Int.reduceSub, Int.reduceMul, Int.reduceNeg,
                Int.reducePow, Nat.reducePow, Int.reduceToNat, Nat.reduceSub, Nat.mul_one, Int.toNat_zero, prod_eta, List.nil_append, List.cons_append, List.append_nil, Int.le_refl,
                Nat.le_refl, true_implies, take_all, vconv, vmm, vidxA, viaddrA, iaddr_sl, iaddr_lsl, getE, vfield, vlen, fillC, fillE, List.replicate, elemsOf, List.length_map,
                f2iK_eq, bits_i64, bits_i32, bits_u64, bits_u32, bits_u8, e_mov, g_mov, e_conv, g_conv, dF32_map, dF64_map, dI64_map, dU8_map, dBool_map, dStr_map, decL, dF32, dF64,
                dI64, dU8, dBool, dStr]))
      all_goals (try simp only [*, m_spec_l01Narrow, Bool.and_true, Bool.true_and, Bool.and_false, Bool.false_and, Bool.or_true, Bool.true_or, Bool.or_false, Bool.false_or, Bool.not_true, Bool.not_false, Bool.false_eq_true, if_true, if_false, reduceIte, decide_true, decide_false])
      all_goals (try (simp_all; done))
    · cases h
  · cases h
def m_spec_l01Sqrt (x0 : Nat) : Nat := (m_spec_l01Narrow (m_math_Sqrt (widen x0)))
def p_spec_l01Sqrt (x0 : Nat) : Bool := (p_spec_l01Narrow (m_math_Sqrt (widen x0)))
def g_spec_l01Sqrt : List AV → Option AV
  | [.flt .f32 y0] => if p_spec_l01Sqrt y0 = true then some (.flt .f32 (m_spec_l01Sqrt y0)) else none
  | _ => none
def ic37 : ICode := (.seq (.reg [⟨(some 2), none, (.mov (.c (.flt .f32 0)))⟩] [0]) (.seq (.reg [⟨(some 3), none, (.mov (.t 0))⟩, ⟨(some 4), none, (.conv (.flt .f64) (.t 3))⟩, ⟨(some
      5), none, (.call (.fn 53) [(.t 4)] [])⟩, ⟨(some 6), none, (.call (.fn 61) [(.t 5)] [])⟩, ⟨(some 2), none, (.mov (.t 6))⟩] [2]) .ret))
def cp37 : CP := { n := 7, kp := [[0], [2]] }
theorem fc37_0 : IntKind.wrap .i64 (-1) = (-1) := by decide
theorem fc37_1 : IntKind.wrap .i64 0 = 0 := by decide
theorem fc37_2 : IntKind.wrap .i64 1 = 1 := by decide
theorem fc37_3 : IntKind.wrap .i64 10 = 10 := by decide
theorem fc37_4 : IntKind.wrap .i64 11 = 11 := by decide
theorem fc37_5 : IntKind.wrap .i64 110 = 110 := by decide
theorem fc37_6 : IntKind.wrap .i64 12 = 12 := by decide
theorem fc37_7 : IntKind.wrap .i64 13 = 13 := by decide
theorem fc37_8 : IntKind.wrap .i64 14 = 14 := by decide
theorem fc37_9 : IntKind.wrap .i64 15 = 15 := by decide
theorem fc37_10 : IntKind.wrap .i64 156 = 156 := by decide
theorem fc37_11 : IntKind.wrap .i64 16 = 16 := by decide
theorem fc37_12 : IntKind.wrap .i64 17 = 17 := by decide
theorem fc37_13 : IntKind.wrap .i64 2 = 2 := by decide
theorem fc37_14 : IntKind.wrap .i64 20 = 20 := by decide
theorem fc37_15 : IntKind.wrap .i64 210 = 210 := by decide
theorem fc37_16 : IntKind.wrap .i64 272 = 272 := by decide
theorem fc37_17 : IntKind.wrap .i64 3 = 3 := by decide
theorem fc37_18 : IntKind.wrap .i64 4 = 4 := by decide
theorem fc37_19 : IntKind.wrap .i64 42 = 42 := by decide
theorem fc37_20 : IntKind.wrap .i64 5 = 5 := by decide
theorem fc37_21 : IntKind.wrap .i64 6 = 6 := by decide
theorem fc37_22 : IntKind.wrap .i64 7 = 7 := by decide
theorem fc37_23 : IntKind.wrap .i64 72 = 72 := by decide
theorem fc37_24 : IntKind.wrap .i64 8 = 8 := by decide
theorem fc37_25 : IntKind.wrap .i64 9 = 9 := by decide
theorem s37 : ∀ vs r, g_spec_l01Sqrt vs = some r → Says Try.prog 37 vs r := by
  intro vs r h
  unfold g_spec_l01Sqrt at h
  split at h
  · rename_i y0
    split at h
    · rename_i hp
      cases h
      refine spec_of (tab := tabOf [(53, g_math_Sqrt), (61, g_spec_l01Narrow)]) (cp := cp37) (ic := ic37) (rvl := [(.t 2)]) hm (tabOk_cons s53 (tabOk_cons s61 tabOk_nil)) Try.func37 rfl rfl rfl (by kernel_rfl) rfl (Nat.le_of_ble_eq_true rfl) ?_
      show eA _ _ _ _
      unfold ic37
      simp only [p_spec_l01Sqrt, Bool.and_eq_true, Bool.or_eq_true, decide_eq_true_eq, Bool.not_eq_true', decide_eq_false_iff_not] at hp
      simp only [
          hp, eA_seq, eA_reg, eA_ret, eA_skip, eA_cond, eA_block, eA_exit, eCc_true, eCc_false, Kq_normal, Kq_ret, Kq_exit, Kb_normal, Kb_exit, Kb_ret, Kreg_eq, eI_nil, bindSt_some,
                bindSt_none, bindSt_ite, eR_eq, eGI_tt, eGI_ff, eGI_tf, eGI_ft, eop, vop, ev_t, ev_c, ev_f, Option.map, put_some, put_none, set_eq, setH_eq, get_eq, hp_eq,
                keep_cons, keep_nil, lk_cons, lk_nil, startSt, envOf, reduceIte, Nat.reduceEqDiff, Nat.reduceAdd, Nat.zero_add, Nat.add_zero, Nat.reduceMul, Nat.reduceLT,
                Nat.reduceLeDiff, bop, uop, intop, fltop, convop, true_or, or_true, Bool.false_eq_true, ret_ok, ret_normal, outV, rvV, rvs, ex_some, pureV, pureX, pureX.pure1',
                pure1, Bool.true_and, Bool.false_and, Bool.and_true, Bool.and_false, Option.isNone_none, AV.cells, AV.one, storable, laid, refless, refless1, List.all_cons,
                List.all_nil, List.length_cons, List.length_nil, List.getElem?_cons_zero, List.getElem?_cons_succ, List.set_cons_zero, List.set_cons_succ, List.set_nil,
                List.map_cons, List.map_nil, vload, loadC, storeC, vnil, vfaddr, vextract, callTo, List.mapM_cons, List.mapM_nil, Option.pure_def, Option.bind_eq_bind,
                Option.bind_some, tabOf_cons, flatT, flatE, flatC, and_self, and_true, true_and, implies_true, forall_const, not_true_eq_false, not_false_eq_true, false_implies,
                List.take_succ_cons, List.drop_succ_cons, List.take_zero, List.drop_zero, Bool.not_true, Bool.not_false, beq_self_eq_true, decide_true, decide_false, eq_self,
                Int.reduceEq, Int.reduceLE, Int.reduceLT, Bool.not_not, Bool.true_or, Bool.or_true, Bool.false_or, Bool.or_false, if_true, if_false, List.getElem?_nil, Kl_normal,
                Kl_exit, Kl_ret, fc37_0, fc37_1, fc37_2, fc37_3, fc37_4, fc37_5, fc37_6, fc37_7, fc37_8, fc37_9, fc37_10, fc37_11, fc37_12, fc37_13, fc37_14, fc37_15, fc37_16,
                fc37_17, fc37_18, fc37_19, fc37_20, fc37_21, fc37_22, fc37_23, fc37_24, fc37_25, cast_lit, toNat_lit, Int.reduceAdd, Int.reduceSub, Int.reduceMul, Int.reduceNeg,
                Int.reducePow, Nat.reducePow, Int.reduceToNat, Nat.reduceSub, Nat.mul_one, Int.toNat_zero, prod_eta, List.nil_append, List.cons_append, List.append_nil, Int.le_refl,
                Nat.le_refl, true_implies, take_all, vconv, vmm, vidxA, viaddrA, iaddr_sl, iaddr_lsl, getE, vfield, vlen, fillC, fillE, List.replicate, elemsOf, List.length_map,
                f2iK_eq, bits_i64, bits_i32, bits_u64, bits_u32, bits_u8, e_mov, g_mov, e_conv, g_conv, e_call, g_call, g_math_Sqrt, g_spec_l01Narrow, dF32_map, dF64_map, dI64_map,
                dU8_map, dBool_map, dStr_map, decL, dF32, dF64, dI64, dU8, dBool, dStr]
      repeat' (first
        | ((first | (refine eGI_of (fun h => ?_) (fun h => ?_)) | (refine eCc_of (fun h => ?_) (fun h => ?_))) <;> (try simp only [Bool.not_eq_true', Bool.not_eq_false'] at h) <;> (try simp only [h, reduceCtorEq, Bool.not_eq_true', decide_eq_false_iff_not, Bool.not_true, Bool.not_false, Bool.false_or, Bool.true_or, Bool.true_and, Bool.false_and, Bool.and_eq_true, Bool.or_eq_true, if_true, if_false, reduceIte, Bool.false_eq_true, and_true, true_and, false_or, or_false, decide_eq_true_eq, not_false_eq_true, not_true_eq_false] at hp) <;> (try (have h2 := h; simp only [decide_eq_true_eq, decide_eq_false_iff_not] at h2; (first | (replace h2 := eq_false h2) | (replace h2 := eq_true h2)); simp only [h2, if_true, if_false, false_or, true_or, or_true, or_false, and_true, true_and, not_false_eq_true, not_true_eq_false] at hp)) <;> simp only [h,
          hp, eA_seq, eA_reg, eA_ret, eA_skip, eA_cond, eA_block, eA_exit, eCc_true, eCc_false, Kq_normal, Kq_ret, Kq_exit, Kb_normal, Kb_exit, Kb_ret, Kreg_eq, eI_nil, bindSt_some,
                bindSt_none, bindSt_ite, eR_eq, eGI_tt, eGI_ff, eGI_tf, eGI_ft, eop, vop, ev_t, ev_c, ev_f, Option.map, put_some, put_none, set_eq, setH_eq, get_eq, hp_eq,
                keep_cons, keep_nil, lk_cons, lk_nil, startSt, envOf, reduceIte, Nat.reduceEqDiff, Nat.reduceAdd, Nat.zero_add, Nat.add_zero, Nat.reduceMul, Nat.reduceLT,
                Nat.reduceLeDiff, bop, uop, intop, fltop, convop, true_or, or_true, Bool.false_eq_true, ret_ok, ret_normal, outV, rvV, rvs, ex_some, pureV, pureX, pureX.pure1',
                pure1, Bool.true_and, Bool.false_and, Bool.and_true, Bool.and_false, Option.isNone_none, AV.cells, AV.one, storable, laid, refless, refless1, List.all_cons,
                List.all_nil, List.length_cons, List.length_nil, List.getElem?_cons_zero, List.getElem?_cons_succ, List.set_cons_zero, List.set_cons_succ, List.set_nil,
                List.map_cons, List.map_nil, vload, loadC, storeC, vnil, vfaddr, vextract, callTo, List.mapM_cons, List.mapM_nil, Option.pure_def, Option.bind_eq_bind,
                Option.bind_some, tabOf_cons, flatT, flatE, flatC, and_self, and_true, true_and, implies_true, forall_const, not_true_eq_false, not_false_eq_true, false_implies,
                List.take_succ_cons, List.drop_succ_cons, List.take_zero, List.drop_zero, Bool.not_true, Bool.not_false, beq_self_eq_true, decide_true, decide_false, eq_self,
                Int.reduceEq, Int.reduceLE, Int.reduceLT, Bool.not_not, Bool.true_or, Bool.or_true, Bool.false_or, Bool.or_false, if_true, if_false, List.getElem?_nil, Kl_normal,
                Kl_exit, Kl_ret, fc37_0, fc37_1, fc37_2, fc37_3, fc37_4, fc37_5, fc37_6, fc37_7, fc37_8, fc37_9, fc37_10, fc37_11, fc37_12, fc37_13, fc37_14, fc37_15, fc37_16,
                fc37_17, fc37_18, fc37_19, fc37_20, fc37_21, fc37_22, fc37_23, fc37_24, fc37_25, cast_lit, toNat_lit, Int.reduceAdd, Int.reduceSub, Int.reduceMul, Int.reduceNeg,
                Int.reducePow, Nat.reducePow, Int.reduceToNat, Nat.reduceSub, Nat.mul_one, Int.toNat_zero, prod_eta, List.nil_append, List.cons_append, List.append_nil, Int.le_refl,
                Nat.le_refl, true_implies, take_all, vconv, vmm, vidxA, viaddrA, iaddr_sl, iaddr_lsl, getE, vfield, vlen, fillC, fillE, List.replicate, elemsOf, List.length_map,
                f2iK_eq, bits_i64, bits_i32, bits_u64, bits_u32, bits_u8, e_mov, g_mov, e_conv, g_conv, e_call, g_call, g_math_Sqrt, g_spec_l01Narrow, dF32_map, dF64_map, dI64_map,
                dU8_map, dBool_map, dStr_map, decL, dF32, dF64, dI64, dU8, dBool, dStr]))
      all_goals (try simp only [*, m_spec_l01Sqrt, Bool.and_true, Bool.true_and, Bool.and_false, Bool.false_and, Bool.or_true, Bool.true_or, Bool.or_false, Bool.false_or, Bool.not_true, Bool.not_false, Bool.false_eq_true, if_true, if_false, reduceIte, decide_true, decide_false])
      all_goals (try (simp_all; done))
    · cases h
  · cases h
def m_spec_l01Long (x0 : (Nat × Nat × Nat)) : Nat := (m_spec_l01Sqrt (m_spec_l01Inner x0 x0))
def p_spec_l01Long (x0 : (Nat × Nat × Nat)) : Bool := (p_spec_l01Sqrt (m_spec_l01Inner x0 x0))
def g_spec_l01Long : List AV → Option AV
  | [.agg [.flt .f32 y0, .flt .f32 y1, .flt .f32 y2]] => if p_spec_l01Long (y0, y1, y2) = true then some (.flt .f32 (m_spec_l01Long (y0, y1,
      y2))) else none
  | _ => none
def ic35 : ICode := (.seq (.reg [⟨(some 1), none, (.box 3 (.t 0))⟩, ⟨(some 2), none, (.mov (.c (.flt .f32 0)))⟩] [1]) (.seq (.reg [⟨(some 3), none, (.load (some 3) (.t 1))⟩, ⟨(some
      4), none, (.load (some 3) (.t 1))⟩, ⟨(some 5), none, (.call (.fn 40) [(.t 3), (.t 4)] [])⟩, ⟨(some 6), none, (.call (.fn 37) [(.t 5)] [])⟩, ⟨(some 2), none, (.mov (.t 6))⟩]
      [2]) .ret))
def cp35 : CP := { n := 7, kp := [[1], [2]] }
theorem fc35_0 : IntKind.wrap .i64 (-1) = (-1) := by decide
theorem fc35_1 : IntKind.wrap .i64 0 = 0 := by decide
theorem fc35_2 : IntKind.wrap .i64 1 = 1 := by decide
theorem fc35_3 : IntKind.wrap .i64 10 = 10 := by decide
theorem fc35_4 : IntKind.wrap .i64 11 = 11 := by decide
theorem fc35_5 : IntKind.wrap .i64 110 = 110 := by decide
theorem fc35_6 : IntKind.wrap .i64 12 = 12 := by decide
theorem fc35_7 : IntKind.wrap .i64 13 = 13 := by decide
theorem fc35_8 : IntKind.wrap .i64 14 = 14 := by decide
theorem fc35_9 : IntKind.wrap .i64 15 = 15 := by decide
theorem fc35_10 : IntKind.wrap .i64 156 = 156 := by decide
theorem fc35_11 : IntKind.wrap .i64 16 = 16 := by decide
theorem fc35_12 : IntKind.wrap .i64 17 = 17 := by decide
theorem fc35_13 : IntKind.wrap .i64 2 = 2 := by decide
theorem fc35_14 : IntKind.wrap .i64 20 = 20 := by decide
theorem fc35_15 : IntKind.wrap .i64 210 = 210 := by decide
theorem fc35_16 : IntKind.wrap .i64 272 = 272 := by decide
theorem fc35_17 : IntKind.wrap .i64 3 = 3 := by decide
theorem fc35_18 : IntKind.wrap .i64 4 = 4 := by decide
theorem fc35_19 : IntKind.wrap .i64 42 = 42 := by decide
theorem fc35_20 : IntKind.wrap .i64 5 = 5 := by decide
theorem fc35_21 : IntKind.wrap .i64 6 = 6 := by decide
theorem fc35_22 : IntKind.wrap .i64 7 = 7 := by decide
theorem fc35_23 : IntKind.wrap .i64 72 = 72 := by decide
theorem fc35_24 : IntKind.wrap .i64 8 = 8 := by decide
theorem fc35_25 : IntKind.wrap .i64 9 = 9 := by decide
theorem s35 : ∀ vs r, g_spec_l01Long vs = some r → Says Try.prog 35 vs r := by
  intro vs r h
  unfold g_spec_l01Long at h
  split at h
  · rename_i y0 y1 y2
    split at h
    · rename_i hp
      cases h
      refine spec_of (tab := tabOf [(37, g_spec_l01Sqrt), (40, g_spec_l01Inner)]) (cp := cp35) (ic := ic35) (rvl := [(.t 2)]) hm (tabOk_cons s37 (tabOk_cons s40 tabOk_nil)) Try.func35 rfl rfl rfl (by kernel_rfl) rfl (Nat.le_of_ble_eq_true rfl) ?_
      show eA _ _ _ _
      unfold ic35
      simp only [p_spec_l01Long, Bool.and_eq_true, Bool.or_eq_true, decide_eq_true_eq, Bool.not_eq_true', decide_eq_false_iff_not] at hp
      simp only [
          hp, eA_seq, eA_reg, eA_ret, eA_skip, eA_cond, eA_block, eA_exit, eCc_true, eCc_false, Kq_normal, Kq_ret, Kq_exit, Kb_normal, Kb_exit, Kb_ret, Kreg_eq, eI_nil, bindSt_some,
                bindSt_none, bindSt_ite, eR_eq, eGI_tt, eGI_ff, eGI_tf, eGI_ft, eop, vop, ev_t, ev_c, ev_f, Option.map, put_some, put_none, set_eq, setH_eq, get_eq, hp_eq,
                keep_cons, keep_nil, lk_cons, lk_nil, startSt, envOf, reduceIte, Nat.reduceEqDiff, Nat.reduceAdd, Nat.zero_add, Nat.add_zero, Nat.reduceMul, Nat.reduceLT,
                Nat.reduceLeDiff, bop, uop, intop, fltop, convop, true_or, or_true, Bool.false_eq_true, ret_ok, ret_normal, outV, rvV, rvs, ex_some, pureV, pureX, pureX.pure1',
                pure1, Bool.true_and, Bool.false_and, Bool.and_true, Bool.and_false, Option.isNone_none, AV.cells, AV.one, storable, laid, refless, refless1, List.all_cons,
                List.all_nil, List.length_cons, List.length_nil, List.getElem?_cons_zero, List.getElem?_cons_succ, List.set_cons_zero, List.set_cons_succ, List.set_nil,
                List.map_cons, List.map_nil, vload, loadC, storeC, vnil, vfaddr, vextract, callTo, List.mapM_cons, List.mapM_nil, Option.pure_def, Option.bind_eq_bind,
                Option.bind_some, tabOf_cons, flatT, flatE, flatC, and_self, and_true, true_and, implies_true, forall_const, not_true_eq_false, not_false_eq_true, false_implies,
                List.take_succ_cons, List.drop_succ_cons, List.take_zero, List.drop_zero, Bool.not_true, Bool.not_false, beq_self_eq_true, decide_true, decide_false, eq_self,
                Int.reduceEq, Int.reduceLE, Int.reduceLT, Bool.not_not, Bool.true_or, Bool.or_true, Bool.false_or, Bool.or_false, if_true, if_false, List.getElem?_nil, Kl_normal,
                Kl_exit, Kl_ret, fc35_0, fc35_1, fc35_2, fc35_3, fc35_4, fc35_5, fc35_6, fc35_7, fc35_8, fc35_9, fc35_10, fc35_11, fc35_12, fc35_13, fc35_14, fc35_15, fc35_16,
                fc35_17, fc35_18, fc35_19, fc35_20, fc35_21, fc35_22, fc35_23, fc35_24, fc35_25, cast_lit, toNat_lit, Int.reduceAdd, Int.reduceSub, Int.reduceMul, Int.reduceNeg,
                Int.reducePow, Nat.reducePow, Int.reduceToNat, Nat.reduceSub, Nat.mul_one, Int.toNat_zero, prod_eta, List.nil_append, List.cons_append, List.append_nil, Int.le_refl,
                Nat.le_refl, true_implies, take_all, vconv, vmm, vidxA, viaddrA, iaddr_sl, iaddr_lsl, getE, vfield, vlen, fillC, fillE, List.replicate, elemsOf, List.length_map,
                f2iK_eq, bits_i64, bits_i32, bits_u64, bits_u32, bits_u8, e_mov, g_mov, e_box, g_box, e_load, g_load, e_call, g_call, g_spec_l01Sqrt, g_spec_l01Inner, dF32_map,
                dF64_map, dI64_map, dU8_map, dBool_map, dStr_map, decL, dF32, dF64, dI64, dU8, dBool, dStr]
      repeat' (first
        | ((first | (refine eGI_of (fun h => ?_) (fun h => ?_)) | (refine eCc_of (fun h => ?_) (fun h => ?_))) <;> (try simp only [Bool.not_eq_true', Bool.not_eq_false'] at h) <;> (try simp only [h, reduceCtorEq, Bool.not_eq_true', decide_eq_false_iff_not, Bool.not_true, Bool.not_false, Bool.false_or, Bool.true_or, Bool.true_and, Bool.false_and, Bool.and_eq_true, Bool.or_eq_true, if_true, if_false, reduceIte, Bool.false_eq_true, and_true, true_and, false_or, or_false, decide_eq_true_eq, not_false_eq_true, not_true_eq_false] at hp) <;> (try (have h2 := h; simp only [decide_eq_true_eq, decide_eq_false_iff_not] at h2; (first | (replace h2 := eq_false h2) | (replace h2 := eq_true h2)); simp only [h2, if_true, if_false, false_or, true_or, or_true, or_false, and_true, true_and, not_false_eq_true, not_true_eq_false] at hp)) <;> simp only [h,
          hp, eA_seq, eA_reg, eA_ret, eA_skip, eA_cond, eA_block, eA_exit, eCc_true, eCc_false, Kq_normal, Kq_ret, Kq_exit, Kb_normal, Kb_exit, Kb_ret, Kreg_eq, eI_nil, bindSt_some,
                bindSt_none, bindSt_ite, eR_eq, eGI_tt, eGI_ff, eGI_tf, eGI_ft, eop, vop, ev_t, ev_c, ev_f, Option.map, put_some, put_none, set_eq, setH_eq, get_eq, hp_eq,
                keep_cons, keep_nil, lk_cons, lk_nil, startSt, envOf, reduceIte, Nat.reduceEqDiff, Nat.reduceAdd, Nat.zero_add, Nat.add_zero, Nat.reduceMul, Nat.reduceLT,
                Nat.reduceLeDiff, bop, uop, intop, fltop, convop, true_or, or_true, Bool.false_eq_true, ret_ok, ret_normal, outV, rvV, rvs, ex_some, pureV, pureX, pureX.pure1',
                pure1, Bool.true_and, Bool.false_and, Bool.and_true, Bool.and_false, Option.isNone_none, AV.cells, AV.one, storable, laid, refless, refless1, List.all_cons,
                List.all_nil, List.length_cons, List.length_nil, List.getElem?_cons_zero, List.getElem?_cons_succ, List.set_cons_zero, List.set_cons_succ, List.set_nil,
                List.map_cons, List.map_nil, vload, loadC, storeC, vnil, vfaddr, vextract, callTo, List.mapM_cons, List.mapM_nil, Option.pure_def, Option.bind_eq_bind,
                Option.bind_some, tabOf_cons, flatT, flatE, flatC, and_self, and_true, true_and, implies_true, forall_const, not_true_eq_false, not_false_eq_true, false_implies,
                List.take_succ_cons, List.drop_succ_cons, List.take_zero, List.drop_zero, Bool.not_true, Bool.not_false, beq_self_eq_true, decide_true, decide_false, eq_self,
                Int.reduceEq, Int.reduceLE, Int.reduceLT, Bool.not_not, Bool.true_or, Bool.or_true, Bool.false_or, Bool.or_false, if_true, if_false, List.getElem?_nil, Kl_normal,
                Kl_exit, Kl_ret, fc35_0, fc35_1, fc35_2, fc35_3, fc35_4, fc35_5, fc35_6, fc35_7, fc35_8, fc35_9, fc35_10, fc35_11, fc35_12, fc35_13, fc35_14, fc35_15, fc35_16,
                fc35_17, fc35_18, fc35_19, fc35_20, fc35_21, fc35_22, fc35_23, fc35_24, fc35_25, cast_lit, toNat_lit, Int.reduceAdd, Int.reduceSub, Int.reduceMul, Int.reduceNeg,
                Int.reducePow, Nat.reducePow, Int.reduceToNat, Nat.reduceSub, Nat.mul_one, Int.toNat_zero, prod_eta, List.nil_append, List.cons_append, List.append_nil, Int.le_refl,
                Nat.le_refl, true_implies, take_all, vconv, vmm, vidxA, viaddrA, iaddr_sl, iaddr_lsl, getE, vfield, vlen, fillC, fillE, List.replicate, elemsOf, List.length_map,
                f2iK_eq, bits_i64, bits_i32, bits_u64, bits_u32, bits_u8, e_mov, g_mov, e_box, g_box, e_load, g_load, e_call, g_call, g_spec_l01Sqrt, g_spec_l01Inner, dF32_map,
                dF64_map, dI64_map, dU8_map, dBool_map, dStr_map, decL, dF32, dF64, dI64, dU8, dBool, dStr]))
      all_goals (try simp only [*, m_spec_l01Long, Bool.and_true, Bool.true_and, Bool.and_false, Bool.false_and, Bool.or_true, Bool.true_or, Bool.or_false, Bool.false_or, Bool.not_true, Bool.not_false, Bool.false_eq_true, if_true, if_false, reduceIte, decide_true, decide_false])
      all_goals (try (simp_all; done))
    · cases h
  · cases h
def m_spec_l01Cross (x0 : (Nat × Nat × Nat)) (x1 : (Nat × Nat × Nat)) : (Nat × Nat × Nat) := ((fsub .f32 (fmul .f32 x0.2.1 x1.2.2) (fmul .f32 x0.2.2 x1.2.1)), (fsub .f32 (fmul .f32
      x0.2.2 x1.1) (fmul .f32 x0.1 x1.2.2)), (fsub .f32 (fmul .f32 x0.1 x1.2.1) (fmul .f32 x0.2.1 x1.1)))
def g_spec_l01Cross : List AV → Option AV
  | [.agg [.flt .f32 y0, .flt .f32 y1, .flt .f32 y2], .agg [.flt .f32 y3, .flt .f32 y4, .flt .f32 y5]] => some (AV.agg [(.flt .f32
      (m_spec_l01Cross (y0, y1, y2) (y3, y4, y5)).1), (.flt .f32 (m_spec_l01Cross (y0, y1, y2) (y3, y4, y5)).2.1), (.flt .f32 (m_spec_l01Cross (y0, y1, y2) (y3, y4, y5)).2.2)])
  | _ => none
def ic88 : ICode := (.seq (.reg [⟨(some 2), none, (.box 3 (.t 0))⟩, ⟨(some 3), none, (.box 3 (.t 1))⟩, ⟨(some 4), none, (.alloc (.agg [(.flt .f32 0), (.flt .f32 0), (.flt .f32
      0)]))⟩] [2, 3, 4]) (.seq (.reg [⟨(some 5), none, (.faddr 1 (.t 2))⟩, ⟨(some 6), none, (.load none (.t 5))⟩, ⟨(some 7), none, (.faddr 2 (.t 3))⟩, ⟨(some 8), none, (.load none
      (.t 7))⟩, ⟨(some 9), none, (.bin .mul false (.t 6) (.t 8))⟩, ⟨(some 10), none, (.faddr 2 (.t 2))⟩, ⟨(some 11), none, (.load none (.t 10))⟩, ⟨(some 12), none, (.faddr 1 (.t
      3))⟩, ⟨(some 13), none, (.load none (.t 12))⟩, ⟨(some 14), none, (.bin .mul false (.t 11) (.t 13))⟩, ⟨(some 15), none, (.bin .sub false (.t 9) (.t 14))⟩, ⟨(some 16), none,
      (.faddr 2 (.t 2))⟩, ⟨(some 17), none, (.load none (.t 16))⟩, ⟨(some 18), none, (.faddr 0 (.t 3))⟩, ⟨(some 19), none, (.load none (.t 18))⟩, ⟨(some 20), none, (.bin .mul false
      (.t 17) (.t 19))⟩, ⟨(some 21), none, (.faddr 0 (.t 2))⟩, ⟨(some 22), none, (.load none (.t 21))⟩, ⟨(some 23), none, (.faddr 2 (.t 3))⟩, ⟨(some 24), none, (.load none (.t
      23))⟩, ⟨(some 25), none, (.bin .mul false (.t 22) (.t 24))⟩, ⟨(some 26), none, (.bin .sub false (.t 20) (.t 25))⟩, ⟨(some 27), none, (.faddr 0 (.t 2))⟩, ⟨(some 28), none,
      (.load none (.t 27))⟩, ⟨(some 29), none, (.faddr 1 (.t 3))⟩, ⟨(some 30), none, (.load none (.t 29))⟩, ⟨(some 31), none, (.bin .mul false (.t 28) (.t 30))⟩, ⟨(some 32), none,
      (.faddr 1 (.t 2))⟩, ⟨(some 33), none, (.load none (.t 32))⟩, ⟨(some 34), none, (.faddr 0 (.t 3))⟩, ⟨(some 35), none, (.load none (.t 34))⟩, ⟨(some 36), none, (.bin .mul false
      (.t 33) (.t 35))⟩, ⟨(some 37), none, (.bin .sub false (.t 31) (.t 36))⟩, ⟨(some 38), none, (.build [(.flt .f32 0), (.flt .f32 0), (.flt .f32 0)] [(0, 1, (.t 15)), (1, 1, (.t
      26)), (2, 1, (.t 37))])⟩, ⟨none, none, (.store 3 (.t 4) (.t 38))⟩] [4]) .ret))
def cp88 : CP := { n := 39, kp := [[2, 3, 4], [4]] }
theorem fc88_0 : IntKind.wrap .i64 (-1) = (-1) := by decide
theorem fc88_1 : IntKind.wrap .i64 0 = 0 := by decide
theorem fc88_2 : IntKind.wrap .i64 1 = 1 := by decide
theorem fc88_3 : IntKind.wrap .i64 10 = 10 := by decide
theorem fc88_4 : IntKind.wrap .i64 11 = 11 := by decide
theorem fc88_5 : IntKind.wrap .i64 110 = 110 := by decide
theorem fc88_6 : IntKind.wrap .i64 12 = 12 := by decide
theorem fc88_7 : IntKind.wrap .i64 13 = 13 := by decide
theorem fc88_8 : IntKind.wrap .i64 14 = 14 := by decide
theorem fc88_9 : IntKind.wrap .i64 15 = 15 := by decide
theorem fc88_10 : IntKind.wrap .i64 156 = 156 := by decide
theorem fc88_11 : IntKind.wrap .i64 16 = 16 := by decide
theorem fc88_12 : IntKind.wrap .i64 17 = 17 := by decide
theorem fc88_13 : IntKind.wrap .i64 2 = 2 := by decide
theorem fc88_14 : IntKind.wrap .i64 20 = 20 := by decide
theorem fc88_15 : IntKind.wrap .i64 210 = 210 := by decide
theorem fc88_16 : IntKind.wrap .i64 272 = 272 := by decide
theorem fc88_17 : IntKind.wrap .i64 3 = 3 := by decide
theorem fc88_18 : IntKind.wrap .i64 4 = 4 := by decide
theorem fc88_19 : IntKind.wrap .i64 42 = 42 := by decide
theorem fc88_20 : IntKind.wrap .i64 5 = 5 := by decide
theorem fc88_21 : IntKind.wrap .i64 6 = 6 := by decide
theorem fc88_22 : IntKind.wrap .i64 7 = 7 := by decide
theorem fc88_23 : IntKind.wrap .i64 72 = 72 := by decide
theorem fc88_24 : IntKind.wrap .i64 8 = 8 := by decide
theorem fc88_25 : IntKind.wrap .i64 9 = 9 := by decide
theorem s88 : ∀ vs r, g_spec_l01Cross vs = some r → Says Try.prog 88 vs r := by
  intro vs r h
  unfold g_spec_l01Cross at h
  split at h
  · rename_i y0 y1 y2 y3 y4 y5
    cases h
    refine spec_of (tab := tabOf []) (cp := cp88) (ic := ic88) (rvl := [(.c 4 (some 3))]) hm tabOk_nil Try.func88 rfl rfl rfl (by kernel_rfl) rfl (Nat.le_of_ble_eq_true rfl) ?_
    show eA _ _ _ _
    unfold ic88
    simp only [
        eA_seq, eA_reg, eA_ret, eA_skip, eA_cond, eA_block, eA_exit, eCc_true, eCc_false, Kq_normal, Kq_ret, Kq_exit, Kb_normal, Kb_exit, Kb_ret, Kreg_eq, eI_nil, bindSt_some,
              bindSt_none, bindSt_ite, eR_eq, eGI_tt, eGI_ff, eGI_tf, eGI_ft, eop, vop, ev_t, ev_c, ev_f, Option.map, put_some, put_none, set_eq, setH_eq, get_eq, hp_eq, keep_cons,
              keep_nil, lk_cons, lk_nil, startSt, envOf, reduceIte, Nat.reduceEqDiff, Nat.reduceAdd, Nat.zero_add, Nat.add_zero, Nat.reduceMul, Nat.reduceLT, Nat.reduceLeDiff, bop,
              uop, intop, fltop, convop, true_or, or_true, Bool.false_eq_true, ret_ok, ret_normal, outV, rvV, rvs, ex_some, pureV, pureX, pureX.pure1', pure1, Bool.true_and,
              Bool.false_and, Bool.and_true, Bool.and_false, Option.isNone_none, AV.cells, AV.one, storable, laid, refless, refless1, List.all_cons, List.all_nil, List.length_cons,
              List.length_nil, List.getElem?_cons_zero, List.getElem?_cons_succ, List.set_cons_zero, List.set_cons_succ, List.set_nil, List.map_cons, List.map_nil, vload, loadC,
              storeC, vnil, vfaddr, vextract, callTo, List.mapM_cons, List.mapM_nil, Option.pure_def, Option.bind_eq_bind, Option.bind_some, tabOf_cons, flatT, flatE, flatC,
              and_self, and_true, true_and, implies_true, forall_const, not_true_eq_false, not_false_eq_true, false_implies, List.take_succ_cons, List.drop_succ_cons,
              List.take_zero, List.drop_zero, Bool.not_true, Bool.not_false, beq_self_eq_true, decide_true, decide_false, eq_self, Int.reduceEq, Int.reduceLE, Int.reduceLT,
              Bool.not_not, Bool.true_or, Bool.or_true, Bool.false_or, Bool.or_false, if_true, if_false, List.getElem?_nil, Kl_normal, Kl_exit, Kl_ret, fc88_0, fc88_1, fc88_2,
              fc88_3, fc88_4, fc88_5, fc88_6, fc88_7, fc88_8, fc88_9, fc88_10, fc88_11, fc88_12, fc88_13, fc88_14, fc88_15, fc88_16, fc88_17, fc88_18, fc88_19, fc88_20, fc88_21,
              fc88_22, fc88_23, fc88_24, fc88_25, cast_lit, toNat_lit, Int.reduceAdd, Int.reduceSub, Int.reduceMul, Int.reduceNeg, Int.reducePow, Nat.reducePow, Int.reduceToNat,
              Nat.reduceSub, Nat.mul_one, Int.toNat_zero, prod_eta, List.nil_append, List.cons_append, List.append_nil, Int.le_refl, Nat.le_refl, true_implies, take_all, vconv, vmm,
              vidxA, viaddrA, iaddr_sl, iaddr_lsl, getE, vfield, vlen, fillC, fillE, List.replicate, elemsOf, List.length_map, f2iK_eq, bits_i64, bits_i32, bits_u64, bits_u32,
              bits_u8, e_alloc, g_alloc, e_box, g_box, e_build, g_build, e_load, g_load, e_store, g_store, e_bin, g_bin, e_faddr, g_faddr, dF32_map, dF64_map, dI64_map, dU8_map,
              dBool_map, dStr_map, decL, dF32, dF64, dI64, dU8, dBool, dStr]
    repeat' (first
      | ((first | (refine eGI_of (fun h => ?_) (fun h => ?_)) | (refine eCc_of (fun h => ?_) (fun h => ?_))) <;> (try simp only [Bool.not_eq_true', Bool.not_eq_false'] at h) <;> simp only [h,
        eA_seq, eA_reg, eA_ret, eA_skip, eA_cond, eA_block, eA_exit, eCc_true, eCc_false, Kq_normal, Kq_ret, Kq_exit, Kb_normal, Kb_exit, Kb_ret, Kreg_eq, eI_nil, bindSt_some,
              bindSt_none, bindSt_ite, eR_eq, eGI_tt, eGI_ff, eGI_tf, eGI_ft, eop, vop, ev_t, ev_c, ev_f, Option.map, put_some, put_none, set_eq, setH_eq, get_eq, hp_eq, keep_cons,
              keep_nil, lk_cons, lk_nil, startSt, envOf, reduceIte, Nat.reduceEqDiff, Nat.reduceAdd, Nat.zero_add, Nat.add_zero, Nat.reduceMul, Nat.reduceLT, Nat.reduceLeDiff, bop,
              uop, intop, fltop, convop, true_or, or_true, Bool.false_eq_true, ret_ok, ret_normal, outV, rvV, rvs, ex_some, pureV, pureX, pureX.pure1', pure1, Bool.true_and,
              Bool.false_and, Bool.and_true, Bool.and_false, Option.isNone_none, AV.cells, AV.one, storable, laid, refless, refless1, List.all_cons, List.all_nil, List.length_cons,
              List.length_nil, List.getElem?_cons_zero, List.getElem?_cons_succ, List.set_cons_zero, List.set_cons_succ, List.set_nil, List.map_cons, List.map_nil, vload, loadC,
              storeC, vnil, vfaddr, vextract, callTo, List.mapM_cons, List.mapM_nil, Option.pure_def, Option.bind_eq_bind, Option.bind_some, tabOf_cons, flatT, flatE, flatC,
              and_self, and_true, true_and, implies_true, forall_const, not_true_eq_false, not_false_eq_true, false_implies, List.take_succ_cons, List.drop_succ_cons,
              List.take_zero, List.drop_zero, Bool.not_true, Bool.not_false, beq_self_eq_true, decide_true, decide_false, eq_self, Int.reduceEq, Int.reduceLE, Int.reduceLT,
              Bool.not_not, Bool.true_or, Bool.or_true, Bool.false_or, Bool.or_false, if_true, if_false, List.getElem?_nil, Kl_normal, Kl_exit, Kl_ret, fc88_0, fc88_1, fc88_2,
              fc88_3, fc88_4, fc88_5, fc88_6, fc88_7, fc88_8, fc88_9, fc88_10, fc88_11, fc88_12, fc88_13, fc88_14, fc88_15, fc88_16, fc88_17, fc88_18, fc88_19, fc88_20, fc88_21,
              fc88_22, fc88_23, fc88_24, fc88_25, cast_lit, toNat_lit, Int.reduceAdd, Int.reduceSub, Int.reduceMul, Int.reduceNeg, Int.reducePow, Nat.reducePow, Int.reduceToNat,
              Nat.reduceSub, Nat.mul_one, Int.toNat_zero, prod_eta, List.nil_append, List.cons_append, List.append_nil, Int.le_refl, Nat.le_refl, true_implies, take_all, vconv, vmm,
              vidxA, viaddrA, iaddr_sl, iaddr_lsl, getE, vfield, vlen, fillC, fillE, List.replicate, elemsOf, List.length_map, f2iK_eq, bits_i64, bits_i32, bits_u64, bits_u32,
              bits_u8, e_alloc, g_alloc, e_box, g_box, e_build, g_build, e_load, g_load, e_store, g_store, e_bin, g_bin, e_faddr, g_faddr, dF32_map, dF64_map, dI64_map, dU8_map,
              dBool_map, dStr_map, decL, dF32, dF64, dI64, dU8, dBool, dStr]))
    all_goals (try simp only [*, m_spec_l01Cross, Bool.and_true, Bool.true_and, Bool.and_false, Bool.false_and, Bool.or_true, Bool.true_or, Bool.or_false, Bool.false_or, Bool.not_true, Bool.not_false, Bool.false_eq_true, if_true, if_false, reduceIte, decide_true, decide_false])
    all_goals (try (simp_all; done))
  · cases h
def m_spec_l02Inner (x0 : (Nat × Nat × Nat × Nat)) (x1 : (Nat × Nat × Nat × Nat)) : Nat := (fadd .f32 (fadd .f32 (fadd .f32 (fmul .f32 x0.1 x1.1) (fmul .f32 x0.2.1 x1.2.1)) (fmul
      .f32 x0.2.2.1 x1.2.2.1)) (fmul .f32 x0.2.2.2 x1.2.2.2))
def g_spec_l02Inner : List AV → Option AV
  | [.agg [.flt .f32 y0, .flt .f32 y1, .flt .f32 y2, .flt .f32 y3], .agg [.flt .f32 y4, .flt .f32 y5, .flt .f32 y6, .flt .f32 y7]] => some
      (.flt .f32 (m_spec_l02Inner (y0, y1, y2, y3) (y4, y5, y6, y7)))
  | _ => none
def ic101 : ICode := (.seq (.reg [⟨(some 2), none, (.box 4 (.t 0))⟩, ⟨(some 3), none, (.box 4 (.t 1))⟩, ⟨(some 4), none, (.mov (.c (.flt .f32 0)))⟩] [2, 3]) (.seq (.reg [⟨(some 6),
      none, (.faddr 0 (.t 2))⟩, ⟨(some 7), none, (.load none (.t 6))⟩, ⟨(some 8), none, (.faddr 0 (.t 3))⟩, ⟨(some 9), none, (.load none (.t 8))⟩, ⟨(some 10), none, (.bin .mul false
      (.t 7) (.t 9))⟩, ⟨(some 11), none, (.faddr 1 (.t 2))⟩, ⟨(some 12), none, (.load none (.t 11))⟩, ⟨(some 13), none, (.faddr 1 (.t 3))⟩, ⟨(some 14), none, (.load none (.t 13))⟩,
      ⟨(some 15), none, (.bin .mul false (.t 12) (.t 14))⟩, ⟨(some 16), none, (.bin .add false (.t 10) (.t 15))⟩, ⟨(some 5), none, (.mov (.t 16))⟩] [2, 3, 5]) (.seq (.reg [⟨(some
      17), none, (.mov (.t 5))⟩, ⟨(some 18), none, (.faddr 2 (.t 2))⟩, ⟨(some 19), none, (.load none (.t 18))⟩, ⟨(some 20), none, (.faddr 2 (.t 3))⟩, ⟨(some 21), none, (.load none
      (.t 20))⟩, ⟨(some 22), none, (.bin .mul false (.t 19) (.t 21))⟩, ⟨(some 23), none, (.bin .add false (.t 17) (.t 22))⟩, ⟨(some 5), none, (.mov (.t 23))⟩] [2, 3, 5]) (.seq (.reg
      [⟨(some 24), none, (.mov (.t 5))⟩, ⟨(some 25), none, (.faddr 3 (.t 2))⟩, ⟨(some 26), none, (.load none (.t 25))⟩, ⟨(some 27), none, (.faddr 3 (.t 3))⟩, ⟨(some 28), none,
      (.load none (.t 27))⟩, ⟨(some 29), none, (.bin .mul false (.t 26) (.t 28))⟩, ⟨(some 30), none, (.bin .add false (.t 24) (.t 29))⟩, ⟨(some 4), none, (.mov (.t 30))⟩] [4])
      .ret))))
def cp101 : CP := { n := 31, kp := [[2, 3], [2, 3, 5], [2, 3, 5], [4]] }
theorem fc101_0 : IntKind.wrap .i64 (-1) = (-1) := by decide
theorem fc101_1 : IntKind.wrap .i64 0 = 0 := by decide
theorem fc101_2 : IntKind.wrap .i64 1 = 1 := by decide
theorem fc101_3 : IntKind.wrap .i64 10 = 10 := by decide
theorem fc101_4 : IntKind.wrap .i64 11 = 11 := by decide
theorem fc101_5 : IntKind.wrap .i64 110 = 110 := by decide
theorem fc101_6 : IntKind.wrap .i64 12 = 12 := by decide
theorem fc101_7 : IntKind.wrap .i64 13 = 13 := by decide
theorem fc101_8 : IntKind.wrap .i64 14 = 14 := by decide
theorem fc101_9 : IntKind.wrap .i64 15 = 15 := by decide
theorem fc101_10 : IntKind.wrap .i64 156 = 156 := by decide
theorem fc101_11 : IntKind.wrap .i64 16 = 16 := by decide
theorem fc101_12 : IntKind.wrap .i64 17 = 17 := by decide
theorem fc101_13 : IntKind.wrap .i64 2 = 2 := by decide
theorem fc101_14 : IntKind.wrap .i64 20 = 20 := by decide
theorem fc101_15 : IntKind.wrap .i64 210 = 210 := by decide
theorem fc101_16 : IntKind.wrap .i64 272 = 272 := by decide
theorem fc101_17 : IntKind.wrap .i64 3 = 3 := by decide
theorem fc101_18 : IntKind.wrap .i64 4 = 4 := by decide
theorem fc101_19 : IntKind.wrap .i64 42 = 42 := by decide
theorem fc101_20 : IntKind.wrap .i64 5 = 5 := by decide
theorem fc101_21 : IntKind.wrap .i64 6 = 6 := by decide
theorem fc101_22 : IntKind.wrap .i64 7 = 7 := by decide
theorem fc101_23 : IntKind.wrap .i64 72 = 72 := by decide
theorem fc101_24 : IntKind.wrap .i64 8 = 8 := by decide
theorem fc101_25 : IntKind.wrap .i64 9 = 9 := by decide
theorem s101 : ∀ vs r, g_spec_l02Inner vs = some r → Says Try.prog 101 vs r := by
  intro vs r h
  unfold g_spec_l02Inner at h
  split at h
  · rename_i y0 y1 y2 y3 y4 y5 y6 y7
    cases h
    refine spec_of (tab := tabOf []) (cp := cp101) (ic := ic101) (rvl := [(.t 4)]) hm tabOk_nil Try.func101 rfl rfl rfl (by kernel_rfl) rfl (Nat.le_of_ble_eq_true rfl) ?_
    show eA _ _ _ _
    unfold ic101
    simp only [
        eA_seq, eA_reg, eA_ret, eA_skip, eA_cond, eA_block, eA_exit, eCc_true, eCc_false, Kq_normal, Kq_ret, Kq_exit, Kb_normal, Kb_exit, Kb_ret, Kreg_eq, eI_nil, bindSt_some,
              bindSt_none, bindSt_ite, eR_eq, eGI_tt, eGI_ff, eGI_tf, eGI_ft, eop, vop, ev_t, ev_c, ev_f, Option.map, put_some, put_none, set_eq, setH_eq, get_eq, hp_eq, keep_cons,
              keep_nil, lk_cons, lk_nil, startSt, envOf, reduceIte, Nat.reduceEqDiff, Nat.reduceAdd, Nat.zero_add, Nat.add_zero, Nat.reduceMul, Nat.reduceLT, Nat.reduceLeDiff, bop,
              uop, intop, fltop, convop, true_or, or_true, Bool.false_eq_true, ret_ok, ret_normal, outV, rvV, rvs, ex_some, pureV, pureX, pureX.pure1', pure1, Bool.true_and,
              Bool.false_and, Bool.and_true, Bool.and_false, Option.isNone_none, AV.cells, AV.one, storable, laid, refless, refless1, List.all_cons, List.all_nil, List.length_cons,
              List.length_nil, List.getElem?_cons_zero, List.getElem?_cons_succ, List.set_cons_zero, List.set_cons_succ, List.set_nil, List.map_cons, List.map_nil, vload, loadC,
              storeC, vnil, vfaddr, vextract, callTo, List.mapM_cons, List.mapM_nil, Option.pure_def, Option.bind_eq_bind, Option.bind_some, tabOf_cons, flatT, flatE, flatC,
              and_self, and_true, true_and, implies_true, forall_const, not_true_eq_false, not_false_eq_true, false_implies, List.take_succ_cons, List.drop_succ_cons,
              List.take_zero, List.drop_zero, Bool.not_true, Bool.not_false, beq_self_eq_true, decide_true, decide_false, eq_self, Int.reduceEq, Int.reduceLE, Int.reduceLT,
              Bool.not_not, Bool.true_or, Bool.or_true, Bool.false_or, Bool.or_false, if_true, if_false, List.getElem?_nil, Kl_normal, Kl_exit, Kl_ret, fc101_0, fc101_1, fc101_2,
              fc101_3, fc101_4, fc101_5, fc101_6, fc101_7, fc101_8, fc101_9, fc101_10, fc101_11, fc101_12, fc101_13, fc101_14, fc101_15, fc101_16, fc101_17, fc101_18, fc101_19,
              fc101_20, fc101_21, fc101_22, fc101_23, fc101_24, fc101_25, cast_lit, toNat_lit, Int.reduceAdd, Int.reduceSub, Int.reduceMul, Int.reduceNeg, Int.reducePow,
              Nat.reducePow, Int.reduceToNat, Nat.reduceSub, Nat.mul_one, Int.toNat_zero, prod_eta, List.nil_append, List.cons_append, List.append_nil, Int.le_refl, Nat.le_refl,
              true_implies, take_all, vconv, vmm, vidxA, viaddrA, iaddr_sl, iaddr_lsl, getE, vfield, vlen, fillC, fillE, List.replicate, elemsOf, List.length_map, f2iK_eq, bits_i64,
              bits_i32, bits_u64, bits_u32, bits_u8, e_mov, g_mov, e_box, g_box, e_load, g_load, e_bin, g_bin, e_faddr, g_faddr, dF32_map, dF64_map, dI64_map, dU8_map, dBool_map,
              dStr_map, decL, dF32, dF64, dI64, dU8, dBool, dStr]
    repeat' (first
      | ((first | (refine eGI_of (fun h => ?_) (fun h => ?_)) | (refine eCc_of (fun h => ?_) (fun h => ?_))) <;> (try simp only [Bool.not_eq_true', Bool.not_eq_false'] at h) <;> simp only [h,
        eA_seq, eA_reg, eA_ret, eA_skip, eA_cond, eA_block, eA_exit, eCc_true, eCc_false, Kq_normal, Kq_ret, Kq_exit, Kb_normal, Kb_exit, Kb_ret, Kreg_eq, eI_nil, bindSt_some,
              bindSt_none, bindSt_ite, eR_eq, eGI_tt, eGI_ff, eGI_tf, eGI_ft, eop, vop, ev_t, ev_c, ev_f, Option.map, put_some, put_none, set_eq, setH_eq, get_eq, hp_eq, keep_cons,
              keep_nil, lk_cons, lk_nil, startSt, envOf, reduceIte, Nat.reduceEqDiff, Nat.reduceAdd, Nat.zero_add, Nat.add_zero, Nat.reduceMul, Nat.reduceLT, Nat.reduceLeDiff, bop,
              uop, intop, fltop, convop, true_or, or_true, Bool.false_eq_true, ret_ok, ret_normal, outV, rvV, rvs, ex_some, pureV, pureX, pureX.pure1', pure1, Bool.true_and,
              Bool.false_and, Bool.and_true, Bool.and_false, Option.isNone_none, AV.cells, AV.one, storable, laid, refless, refless1, List.all_cons, List.all_nil, List.length_cons,
              List.length_nil, List.getElem?_cons_zero, List.getElem?_cons_succ, List.set_cons_zero, List.set_cons_succ, List.set_nil, List.map_cons, List.map_nil, vload, loadC,
              storeC, vnil, vfaddr, vextract, callTo, List.mapM_cons, List.mapM_nil, Option.pure_def, Option.bind_eq_bind, Option.bind_some, tabOf_cons, flatT, flatE, flatC,
              and_self, and_true, true_and, implies_true, forall_const, not_true_eq_false, not_false_eq_true, false_implies, List.take_succ_cons, List.drop_succ_cons,
              List.take_zero, List.drop_zero, Bool.not_true, Bool.not_false, beq_self_eq_true, decide_true, decide_false, eq_self, Int.reduceEq, Int.reduceLE, Int.reduceLT,
              Bool.not_not, Bool.true_or, Bool.or_true, Bool.false_or, Bool.or_false, if_true, if_false, List.getElem?_nil, Kl_normal, Kl_exit, Kl_ret, fc101_0, fc101_1, fc101_2,
              fc101_3, fc101_4, fc101_5, fc101_6, fc101_7, fc101_8, fc101_9, fc101_10, fc101_11, fc101_12, fc101_13, fc101_14, fc101_15, fc101_16, fc101_17, fc101_18, fc101_19,
              fc101_20, fc101_21, fc101_22, fc101_23, fc101_24, fc101_25, cast_lit, toNat_lit, Int.reduceAdd, Int.reduceSub, Int.reduceMul, Int.reduceNeg, Int.reducePow,
              Nat.reducePow, Int.reduceToNat, Nat.reduceSub, Nat.mul_one, Int.toNat_zero, prod_eta, List.nil_append, List.cons_append, List.append_nil, Int.le_refl, Nat.le_refl,
              true_implies, take_all, vconv, vmm, vidxA, viaddrA, iaddr_sl, iaddr_lsl, getE, vfield, vlen, fillC, fillE, List.replicate, elemsOf, List.length_map, f2iK_eq, bits_i64,
              bits_i32, bits_u64, bits_u32, bits_u8, e_mov, g_mov, e_box, g_box, e_load, g_load, e_bin, g_bin, e_faddr, g_faddr, dF32_map, dF64_map, dI64_map, dU8_map, dBool_map,
              dStr_map, decL, dF32, dF64, dI64, dU8, dBool, dStr]))
    all_goals (try simp only [*, m_spec_l02Inner, Bool.and_true, Bool.true_and, Bool.and_false, Bool.false_and, Bool.or_true, Bool.true_or, Bool.or_false, Bool.false_or, Bool.not_true, Bool.not_false, Bool.false_eq_true, if_true, if_false, reduceIte, decide_true, decide_false])
    all_goals (try (simp_all; done))
  · cases h
def m_spec_l01Finite (x0 : Nat) : Bool := (feq .f32 (fsub .f32 x0 x0) 0)
def g_spec_l01Finite : List AV → Option AV
  | [.flt .f32 y0] => some (.bool (m_spec_l01Finite y0))
  | _ => none
def ic58 : ICode := (.seq (.reg [⟨(some 2), none, (.mov (.c (.bool false)))⟩] [0]) (.seq (.reg [⟨(some 3), none, (.mov (.t 0))⟩, ⟨(some 4), none, (.mov (.t 0))⟩, ⟨(some 5), none,
      (.bin .sub false (.t 3) (.t 4))⟩, ⟨(some 6), none, (.bin .eql false (.t 5) (.c (.flt .f32 0)))⟩, ⟨(some 2), none, (.mov (.t 6))⟩] [2]) .ret))
def cp58 : CP := { n := 7, kp := [[0], [2]] }
theorem fc58_0 : IntKind.wrap .i64 (-1) = (-1) := by decide
theorem fc58_1 : IntKind.wrap .i64 0 = 0 := by decide
theorem fc58_2 : IntKind.wrap .i64 1 = 1 := by decide
theorem fc58_3 : IntKind.wrap .i64 10 = 10 := by decide
theorem fc58_4 : IntKind.wrap .i64 11 = 11 := by decide
theorem fc58_5 : IntKind.wrap .i64 110 = 110 := by decide
theorem fc58_6 : IntKind.wrap .i64 12 = 12 := by decide
theorem fc58_7 : IntKind.wrap .i64 13 = 13 := by decide
theorem fc58_8 : IntKind.wrap .i64 14 = 14 := by decide
theorem fc58_9 : IntKind.wrap .i64 15 = 15 := by decide
theorem fc58_10 : IntKind.wrap .i64 156 = 156 := by decide
theorem fc58_11 : IntKind.wrap .i64 16 = 16 := by decide
theorem fc58_12 : IntKind.wrap .i64 17 = 17 := by decide
theorem fc58_13 : IntKind.wrap .i64 2 = 2 := by decide
theorem fc58_14 : IntKind.wrap .i64 20 = 20 := by decide
theorem fc58_15 : IntKind.wrap .i64 210 = 210 := by decide
theorem fc58_16 : IntKind.wrap .i64 272 = 272 := by decide
theorem fc58_17 : IntKind.wrap .i64 3 = 3 := by decide
theorem fc58_18 : IntKind.wrap .i64 4 = 4 := by decide
theorem fc58_19 : IntKind.wrap .i64 42 = 42 := by decide
theorem fc58_20 : IntKind.wrap .i64 5 = 5 := by decide
theorem fc58_21 : IntKind.wrap .i64 6 = 6 := by decide
theorem fc58_22 : IntKind.wrap .i64 7 = 7 := by decide
theorem fc58_23 : IntKind.wrap .i64 72 = 72 := by decide
theorem fc58_24 : IntKind.wrap .i64 8 = 8 := by decide
theorem fc58_25 : IntKind.wrap .i64 9 = 9 := by decide
theorem s58 : ∀ vs r, g_spec_l01Finite vs = some r → Says Try.prog 58 vs r := by
  intro vs r h
  unfold g_spec_l01Finite at h
  split at h
  · rename_i y0
    cases h
    refine spec_of (tab := tabOf []) (cp := cp58) (ic := ic58) (rvl := [(.t 2)]) hm tabOk_nil Try.func58 rfl rfl rfl (by kernel_rfl) rfl (Nat.le_of_ble_eq_true rfl) ?_
    show eA _ _ _ _
    unfold ic58
    simp only [
        eA_seq, eA_reg, eA_ret, eA_skip, eA_cond, eA_block, eA_exit, eCc_true, eCc_false, Kq_normal, Kq_ret, Kq_exit, Kb_normal, Kb_exit, Kb_ret, Kreg_eq, eI_nil, bindSt_some,
              bindSt_none, bindSt_ite, eR_eq, eGI_tt, eGI_ff, eGI_tf, eGI_ft, eop, vop, ev_t, ev_c, ev_f, Option.map, put_some, put_none, set_eq, setH_eq, get_eq, hp_eq, keep_cons,
              keep_nil, lk_cons, lk_nil, startSt, envOf, reduceIte, Nat.reduceEqDiff, Nat.reduceAdd, Nat.zero_add, Nat.add_zero, Nat.reduceMul, Nat.reduceLT, Nat.reduceLeDiff, bop,
              uop, intop, fltop, convop, true_or, or_true, Bool.false_eq_true, ret_ok, ret_normal, outV, rvV, rvs, ex_some, pureV, pureX, pureX.pure1', pure1, Bool.true_and,
              Bool.false_and, Bool.and_true, Bool.and_false, Option.isNone_none, AV.cells, AV.one, storable, laid, refless, refless1, List.all_cons, List.all_nil, List.length_cons,
              List.length_nil, List.getElem?_cons_zero, List.getElem?_cons_succ, List.set_cons_zero, List.set_cons_succ, List.set_nil, List.map_cons, List.map_nil, vload, loadC,
              storeC, vnil, vfaddr, vextract, callTo, List.mapM_cons, List.mapM_nil, Option.pure_def, Option.bind_eq_bind, Option.bind_some, tabOf_cons, flatT, flatE, flatC,
              and_self, and_true, true_and, implies_true, forall_const, not_true_eq_false, not_false_eq_true, false_implies, List.take_succ_cons, List.drop_succ_cons,
              List.take_zero, List.drop_zero, Bool.not_true, Bool.not_false, beq_self_eq_true, decide_true, decide_false, eq_self, Int.reduceEq, Int.reduceLE, Int.reduceLT,
              Bool.not_not, Bool.true_or, Bool.or_true, Bool.false_or, Bool.or_false, if_true, if_false, List.getElem?_nil, Kl_normal, Kl_exit, Kl_ret, fc58_0, fc58_1, fc58_2,
              fc58_3, fc58_4, fc58_5, fc58_6, fc58_7, fc58_8, fc58_9, fc58_10, fc58_11, fc58_12, fc58_13, fc58_14, fc58_15, fc58_16, fc58_17, fc58_18, fc58_19, fc58_20, fc58_21,
              fc58_22, fc58_23, fc58_24, fc58_25, cast_lit, toNat_lit, Int.reduceAdd, Int.reduceSub, Int.reduceMul, Int.reduceNeg, Int.reducePow, Nat.reducePow, Int.reduceToNat,
              Nat.reduceSub, Nat.mul_one, Int.toNat_zero, prod_eta, List.nil_append, List.cons_append, List.append_nil, Int.le_refl, Nat.le_refl, true_implies, take_all, vconv, vmm,
              vidxA, viaddrA, iaddr_sl, iaddr_lsl, getE, vfield, vlen, fillC, fillE, List.replicate, elemsOf, List.length_map, f2iK_eq, bits_i64, bits_i32, bits_u64, bits_u32,
              bits_u8, e_mov, g_mov, e_bin, g_bin, dF32_map, dF64_map, dI64_map, dU8_map, dBool_map, dStr_map, decL, dF32, dF64, dI64, dU8, dBool, dStr]
    repeat' (first
      | ((first | (refine eGI_of (fun h => ?_) (fun h => ?_)) | (refine eCc_of (fun h => ?_) (fun h => ?_))) <;> (try simp only [Bool.not_eq_true', Bool.not_eq_false'] at h) <;> simp only [h,
        eA_seq, eA_reg, eA_ret, eA_skip, eA_cond, eA_block, eA_exit, eCc_true, eCc_false, Kq_normal, Kq_ret, Kq_exit, Kb_normal, Kb_exit, Kb_ret, Kreg_eq, eI_nil, bindSt_some,
              bindSt_none, bindSt_ite, eR_eq, eGI_tt, eGI_ff, eGI_tf, eGI_ft, eop, vop, ev_t, ev_c, ev_f, Option.map, put_some, put_none, set_eq, setH_eq, get_eq, hp_eq, keep_cons,
              keep_nil, lk_cons, lk_nil, startSt, envOf, reduceIte, Nat.reduceEqDiff, Nat.reduceAdd, Nat.zero_add, Nat.add_zero, Nat.reduceMul, Nat.reduceLT, Nat.reduceLeDiff, bop,
              uop, intop, fltop, convop, true_or, or_true, Bool.false_eq_true, ret_ok, ret_normal, outV, rvV, rvs, ex_some, pureV, pureX, pureX.pure1', pure1, Bool.true_and,
              Bool.false_and, Bool.and_true, Bool.and_false, Option.isNone_none, AV.cells, AV.one, storable, laid, refless, refless1, List.all_cons, List.all_nil, List.length_cons,
              List.length_nil, List.getElem?_cons_zero, List.getElem?_cons_succ, List.set_cons_zero, List.set_cons_succ, List.set_nil, List.map_cons, List.map_nil, vload, loadC,
              storeC, vnil, vfaddr, vextract, callTo, List.mapM_cons, List.mapM_nil, Option.pure_def, Option.bind_eq_bind, Option.bind_some, tabOf_cons, flatT, flatE, flatC,
              and_self, and_true, true_and, implies_true, forall_const, not_true_eq_false, not_false_eq_true, false_implies, List.take_succ_cons, List.drop_succ_cons,
              List.take_zero, List.drop_zero, Bool.not_true, Bool.not_false, beq_self_eq_true, decide_true, decide_false, eq_self, Int.reduceEq, Int.reduceLE, Int.reduceLT,
              Bool.not_not, Bool.true_or, Bool.or_true, Bool.false_or, Bool.or_false, if_true, if_false, List.getElem?_nil, Kl_normal, Kl_exit, Kl_ret, fc58_0, fc58_1, fc58_2,
              fc58_3, fc58_4, fc58_5, fc58_6, fc58_7, fc58_8, fc58_9, fc58_10, fc58_11, fc58_12, fc58_13, fc58_14, fc58_15, fc58_16, fc58_17, fc58_18, fc58_19, fc58_20, fc58_21,
              fc58_22, fc58_23, fc58_24, fc58_25, cast_lit, toNat_lit, Int.reduceAdd, Int.reduceSub, Int.reduceMul, Int.reduceNeg, Int.reducePow, Nat.reducePow, Int.reduceToNat,
              Nat.reduceSub, Nat.mul_one, Int.toNat_zero, prod_eta, List.nil_append, List.cons_append, List.append_nil, Int.le_refl, Nat.le_refl, true_implies, take_all, vconv, vmm,
              vidxA, viaddrA, iaddr_sl, iaddr_lsl, getE, vfield, vlen, fillC, fillE, List.replicate, elemsOf, List.length_map, f2iK_eq, bits_i64, bits_i32, bits_u64, bits_u32,
              bits_u8, e_mov, g_mov, e_bin, g_bin, dF32_map, dF64_map, dI64_map, dU8_map, dBool_map, dStr_map, decL, dF32, dF64, dI64, dU8, dBool, dStr]))
    all_goals (try simp only [*, m_spec_l01Finite, Bool.and_true, Bool.true_and, Bool.and_false, Bool.false_and, Bool.or_true, Bool.true_or, Bool.or_false, Bool.false_or, Bool.not_true, Bool.not_false, Bool.false_eq_true, if_true, if_false, reduceIte, decide_true, decide_false])
    all_goals (try (simp_all; done))
  · cases h
def m_spec_l02No  : (Nat × Nat × Nat × Nat) := (1065353216, 0, 0, 0)
def g_spec_l02No : List AV → Option AV
  | [] => some (AV.agg [(.flt .f32 (m_spec_l02No).1), (.flt .f32 (m_spec_l02No).2.1), (.flt .f32 (m_spec_l02No).2.2.1), (.flt .f32
      (m_spec_l02No).2.2.2)])
  | _ => none
def ic82 : ICode := (.seq (.reg [⟨(some 0), none, (.alloc (.agg [(.flt .f32 0), (.flt .f32 0), (.flt .f32 0), (.flt .f32 0)]))⟩] [0]) (.seq (.reg [⟨(some 1), none, (.build [(.flt
      .f32 0), (.flt .f32 0), (.flt .f32 0), (.flt .f32 0)] [(0, 1, (.c (.flt .f32 1065353216)))])⟩, ⟨none, none, (.store 4 (.t 0) (.t 1))⟩] [0]) .ret))
def cp82 : CP := { n := 2, kp := [[0], [0]] }
theorem fc82_0 : IntKind.wrap .i64 (-1) = (-1) := by decide
theorem fc82_1 : IntKind.wrap .i64 0 = 0 := by decide
theorem fc82_2 : IntKind.wrap .i64 1 = 1 := by decide
theorem fc82_3 : IntKind.wrap .i64 10 = 10 := by decide
theorem fc82_4 : IntKind.wrap .i64 11 = 11 := by decide
theorem fc82_5 : IntKind.wrap .i64 110 = 110 := by decide
theorem fc82_6 : IntKind.wrap .i64 12 = 12 := by decide
theorem fc82_7 : IntKind.wrap .i64 13 = 13 := by decide
theorem fc82_8 : IntKind.wrap .i64 14 = 14 := by decide
theorem fc82_9 : IntKind.wrap .i64 15 = 15 := by decide
theorem fc82_10 : IntKind.wrap .i64 156 = 156 := by decide
theorem fc82_11 : IntKind.wrap .i64 16 = 16 := by decide
theorem fc82_12 : IntKind.wrap .i64 17 = 17 := by decide
theorem fc82_13 : IntKind.wrap .i64 2 = 2 := by decide
theorem fc82_14 : IntKind.wrap .i64 20 = 20 := by decide
theorem fc82_15 : IntKind.wrap .i64 210 = 210 := by decide
theorem fc82_16 : IntKind.wrap .i64 272 = 272 := by decide
theorem fc82_17 : IntKind.wrap .i64 3 = 3 := by decide
theorem fc82_18 : IntKind.wrap .i64 4 = 4 := by decide
theorem fc82_19 : IntKind.wrap .i64 42 = 42 := by decide
theorem fc82_20 : IntKind.wrap .i64 5 = 5 := by decide
theorem fc82_21 : IntKind.wrap .i64 6 = 6 := by decide
theorem fc82_22 : IntKind.wrap .i64 7 = 7 := by decide
theorem fc82_23 : IntKind.wrap .i64 72 = 72 := by decide
theorem fc82_24 : IntKind.wrap .i64 8 = 8 := by decide
theorem fc82_25 : IntKind.wrap .i64 9 = 9 := by decide
theorem s82 : ∀ vs r, g_spec_l02No vs = some r → Says Try.prog 82 vs r := by
  intro vs r h
  unfold g_spec_l02No at h
  split at h
  · cases h
    refine spec_of (tab := tabOf []) (cp := cp82) (ic := ic82) (rvl := [(.c 0 (some 4))]) hm tabOk_nil Try.func82 rfl rfl rfl (by kernel_rfl) rfl (Nat.le_of_ble_eq_true rfl) ?_
    show eA _ _ _ _
    unfold ic82
    simp only [
        eA_seq, eA_reg, eA_ret, eA_skip, eA_cond, eA_block, eA_exit, eCc_true, eCc_false, Kq_normal, Kq_ret, Kq_exit, Kb_normal, Kb_exit, Kb_ret, Kreg_eq, eI_nil, bindSt_some,
              bindSt_none, bindSt_ite, eR_eq, eGI_tt, eGI_ff, eGI_tf, eGI_ft, eop, vop, ev_t, ev_c, ev_f, Option.map, put_some, put_none, set_eq, setH_eq, get_eq, hp_eq, keep_cons,
              keep_nil, lk_cons, lk_nil, startSt, envOf, reduceIte, Nat.reduceEqDiff, Nat.reduceAdd, Nat.zero_add, Nat.add_zero, Nat.reduceMul, Nat.reduceLT, Nat.reduceLeDiff, bop,
              uop, intop, fltop, convop, true_or, or_true, Bool.false_eq_true, ret_ok, ret_normal, outV, rvV, rvs, ex_some, pureV, pureX, pureX.pure1', pure1, Bool.true_and,
              Bool.false_and, Bool.and_true, Bool.and_false, Option.isNone_none, AV.cells, AV.one, storable, laid, refless, refless1, List.all_cons, List.all_nil, List.length_cons,
              List.length_nil, List.getElem?_cons_zero, List.getElem?_cons_succ, List.set_cons_zero, List.set_cons_succ, List.set_nil, List.map_cons, List.map_nil, vload, loadC,
              storeC, vnil, vfaddr, vextract, callTo, List.mapM_cons, List.mapM_nil, Option.pure_def, Option.bind_eq_bind, Option.bind_some, tabOf_cons, flatT, flatE, flatC,
              and_self, and_true, true_and, implies_true, forall_const, not_true_eq_false, not_false_eq_true, false_implies, List.take_succ_cons, List.drop_succ_cons,
              List.take_zero, List.drop_zero, Bool.not_true, Bool.not_false, beq_self_eq_true, decide_true, decide_false, eq_self, Int.reduceEq, Int.reduceLE, Int.reduceLT,
              Bool.not_not, Bool.true_or, Bool.or_true, Bool.false_or, Bool.or_false, if_true, if_false, List.getElem?_nil, Kl_normal, Kl_exit, Kl_ret, fc82_0, fc82_1, fc82_2,
              fc82_3, fc82_4, fc82_5, fc82_6, fc82_7, fc82_8, fc82_9, fc82_10, fc82_11, fc82_12, fc82_13, fc82_14, fc82_15, fc82_16, fc82_17, fc82_18, fc82_19, fc82_20, fc82_21,
              fc82_22, fc82_23, fc82_24, fc82_25, cast_lit, toNat_lit, Int.reduceAdd, Int.reduceSub, Int.reduceMul, Int.reduceNeg, Int.reducePow, Nat.reducePow, Int.reduceToNat,
              Nat.reduceSub, Nat.mul_one, Int.toNat_zero, prod_eta, List.nil_append, List.cons_append, List.append_nil, Int.le_refl, Nat.le_refl, true_implies, take_all, vconv, vmm,
              vidxA, viaddrA, iaddr_sl, iaddr_lsl, getE, vfield, vlen, fillC, fillE, List.replicate, elemsOf, List.length_map, f2iK_eq, bits_i64, bits_i32, bits_u64, bits_u32,
              bits_u8, e_alloc, g_alloc, e_build, g_build, e_store, g_store, dF32_map, dF64_map, dI64_map, dU8_map, dBool_map, dStr_map, decL, dF32, dF64, dI64, dU8, dBool, dStr]
    repeat' (first
      | ((first | (refine eGI_of (fun h => ?_) (fun h => ?_)) | (refine eCc_of (fun h => ?_) (fun h => ?_))) <;> (try simp only [Bool.not_eq_true', Bool.not_eq_false'] at h) <;> simp only [h,
        eA_seq, eA_reg, eA_ret, eA_skip, eA_cond, eA_block, eA_exit, eCc_true, eCc_false, Kq_normal, Kq_ret, Kq_exit, Kb_normal, Kb_exit, Kb_ret, Kreg_eq, eI_nil, bindSt_some,
              bindSt_none, bindSt_ite, eR_eq, eGI_tt, eGI_ff, eGI_tf, eGI_ft, eop, vop, ev_t, ev_c, ev_f, Option.map, put_some, put_none, set_eq, setH_eq, get_eq, hp_eq, keep_cons,
              keep_nil, lk_cons, lk_nil, startSt, envOf, reduceIte, Nat.reduceEqDiff, Nat.reduceAdd, Nat.zero_add, Nat.add_zero, Nat.reduceMul, Nat.reduceLT, Nat.reduceLeDiff, bop,
              uop, intop, fltop, convop, true_or, or_true, Bool.false_eq_true, ret_ok, ret_normal, outV, rvV, rvs, ex_some, pureV, pureX, pureX.pure1', pure1, Bool.true_and,
              Bool.false_and, Bool.and_true, Bool.and_false, Option.isNone_none, AV.cells, AV.one, storable, laid, refless, refless1, List.all_cons, List.all_nil, List.length_cons,
              List.length_nil, List.getElem?_cons_zero, List.getElem?_cons_succ, List.set_cons_zero, List.set_cons_succ, List.set_nil, List.map_cons, List.map_nil, vload, loadC,
              storeC, vnil, vfaddr, vextract, callTo, List.mapM_cons, List.mapM_nil, Option.pure_def, Option.bind_eq_bind, Option.bind_some, tabOf_cons, flatT, flatE, flatC,
              and_self, and_true, true_and, implies_true, forall_const, not_true_eq_false, not_false_eq_true, false_implies, List.take_succ_cons, List.drop_succ_cons,
              List.take_zero, List.drop_zero, Bool.not_true, Bool.not_false, beq_self_eq_true, decide_true, decide_false, eq_self, Int.reduceEq, Int.reduceLE, Int.reduceLT,
              Bool.not_not, Bool.true_or, Bool.or_true, Bool.false_or, Bool.or_false, if_true, if_false, List.getElem?_nil, Kl_normal, Kl_exit, Kl_ret, fc82_0, fc82_1, fc82_2,
              fc82_3, fc82_4, fc82_5, fc82_6, fc82_7, fc82_8, fc82_9, fc82_10, fc82_11, fc82_12, fc82_13, fc82_14, fc82_15, fc82_16, fc82_17, fc82_18, fc82_19, fc82_20, fc82_21,
              fc82_22, fc82_23, fc82_24, fc82_25, cast_lit, toNat_lit, Int.reduceAdd, Int.reduceSub, Int.reduceMul, Int.reduceNeg, Int.reducePow, Nat.reducePow, Int.reduceToNat,
              Nat.reduceSub, Nat.mul_one, Int.toNat_zero, prod_eta, List.nil_append, List.cons_append, List.append_nil, Int.le_refl, Nat.le_refl, true_implies, take_all, vconv, vmm,
              vidxA, viaddrA, iaddr_sl, iaddr_lsl, getE, vfield, vlen, fillC, fillE, List.replicate, elemsOf, List.length_map, f2iK_eq, bits_i64, bits_i32, bits_u64, bits_u32,
              bits_u8, e_alloc, g_alloc, e_build, g_build, e_store, g_store, dF32_map, dF64_map, dI64_map, dU8_map, dBool_map, dStr_map, decL, dF32, dF64, dI64, dU8, dBool, dStr]))
    all_goals (try simp only [*, m_spec_l02No, Bool.and_true, Bool.true_and, Bool.and_false, Bool.false_and, Bool.or_true, Bool.true_or, Bool.or_false, Bool.false_or, Bool.not_true, Bool.not_false, Bool.false_eq_true, if_true, if_false, reduceIte, decide_true, decide_false])
    all_goals (try (simp_all; done))
  · cases h
def m_spec_l02Mend (x0 : (Nat × Nat × Nat × Nat)) : (Nat × Nat × Nat × Nat) := (if (feq .f32 (m_spec_l01Sqrt (m_spec_l02Inner x0 x0)) 0) = true then (m_spec_l02No) else (if
      (m_spec_l01Finite (m_spec_l01Sqrt (m_spec_l02Inner x0 x0))) = true then ((fdiv .f32 x0.1 (m_spec_l01Sqrt (m_spec_l02Inner x0 x0))), (fdiv .f32 x0.2.1 (m_spec_l01Sqrt
      (m_spec_l02Inner x0 x0))), (fdiv .f32 x0.2.2.1 (m_spec_l01Sqrt (m_spec_l02Inner x0 x0))), (fdiv .f32 x0.2.2.2 (m_spec_l01Sqrt (m_spec_l02Inner x0 x0)))) else (m_spec_l02No)))
def p_spec_l02Mend (x0 : (Nat × Nat × Nat × Nat)) : Bool := (p_spec_l01Sqrt (m_spec_l02Inner x0 x0))
def g_spec_l02Mend : List AV → Option AV
  | [.agg [.flt .f32 y0, .flt .f32 y1, .flt .f32 y2, .flt .f32 y3]] => if p_spec_l02Mend (y0, y1, y2, y3) = true then some (AV.agg [(.flt
      .f32 (m_spec_l02Mend (y0, y1, y2, y3)).1), (.flt .f32 (m_spec_l02Mend (y0, y1, y2, y3)).2.1), (.flt .f32 (m_spec_l02Mend (y0, y1, y2, y3)).2.2.1), (.flt .f32 (m_spec_l02Mend
      (y0, y1, y2, y3)).2.2.2)]) else none
  | _ => none
def ic89 : ICode := (.seq (.reg [⟨(some 1), none, (.box 4 (.t 0))⟩, ⟨(some 2), none, (.alloc (.agg [(.flt .f32 0), (.flt .f32 0), (.flt .f32 0), (.flt .f32 0)]))⟩] [1, 2]) (.seq
      (.reg [⟨(some 4), none, (.load (some 4) (.t 1))⟩, ⟨(some 5), none, (.load (some 4) (.t 1))⟩, ⟨(some 6), none, (.call (.fn 101) [(.t 4), (.t 5)] [])⟩, ⟨(some 7), none, (.call
      (.fn 37) [(.t 6)] [])⟩, ⟨(some 3), none, (.mov (.t 7))⟩] [1, 2, 3]) (.seq (.seq (.reg [⟨(some 8), none, (.mov (.t 3))⟩, ⟨(some 9), none, (.bin .eql false (.t 8) (.c (.flt .f32
      0)))⟩, ⟨(some 10), none, (.mov (.t 9))⟩, ⟨(some 11), (some (10, false)), (.mov (.t 3))⟩, ⟨(some 12), (some (10, false)), (.call (.fn 58) [(.t 11)] [])⟩, ⟨(some 13), (some (10,
      false)), (.un .not (.t 12))⟩, ⟨(some 14), none, (.pick (.t 10) (.c (.bool true)) (.t 13))⟩] [1, 2, 3, 14]) (.cond (.t 14) (.seq (.reg [⟨(some 15), none, (.call (.fn 82) []
      [])⟩, ⟨none, none, (.store 4 (.t 2) (.t 15))⟩] [2]) .ret) .skip)) (.seq (.reg [⟨(some 16), none, (.faddr 0 (.t 1))⟩, ⟨(some 17), none, (.load none (.t 16))⟩, ⟨(some 18), none,
      (.mov (.t 3))⟩, ⟨(some 19), none, (.bin .quo false (.t 17) (.t 18))⟩, ⟨(some 20), none, (.faddr 1 (.t 1))⟩, ⟨(some 21), none, (.load none (.t 20))⟩, ⟨(some 22), none, (.mov
      (.t 3))⟩, ⟨(some 23), none, (.bin .quo false (.t 21) (.t 22))⟩, ⟨(some 24), none, (.faddr 2 (.t 1))⟩, ⟨(some 25), none, (.load none (.t 24))⟩, ⟨(some 26), none, (.mov (.t
      3))⟩, ⟨(some 27), none, (.bin .quo false (.t 25) (.t 26))⟩, ⟨(some 28), none, (.faddr 3 (.t 1))⟩, ⟨(some 29), none, (.load none (.t 28))⟩, ⟨(some 30), none, (.mov (.t 3))⟩,
      ⟨(some 31), none, (.bin .quo false (.t 29) (.t 30))⟩, ⟨(some 32), none, (.build [(.flt .f32 0), (.flt .f32 0), (.flt .f32 0), (.flt .f32 0)] [(0, 1, (.t 19)), (1, 1, (.t 23)),
      (2, 1, (.t 27)), (3, 1, (.t 31))])⟩, ⟨none, none, (.store 4 (.t 2) (.t 32))⟩] [2]) .ret))))
def cp89 : CP := { n := 33, kp := [[1, 2], [1, 2, 3], [1, 2, 3, 14], [2], [2]] }
theorem fc89_0 : IntKind.wrap .i64 (-1) = (-1) := by decide
theorem fc89_1 : IntKind.wrap .i64 0 = 0 := by decide
theorem fc89_2 : IntKind.wrap .i64 1 = 1 := by decide
theorem fc89_3 : IntKind.wrap .i64 10 = 10 := by decide
theorem fc89_4 : IntKind.wrap .i64 11 = 11 := by decide
theorem fc89_5 : IntKind.wrap .i64 110 = 110 := by decide
theorem fc89_6 : IntKind.wrap .i64 12 = 12 := by decide
theorem fc89_7 : IntKind.wrap .i64 13 = 13 := by decide
theorem fc89_8 : IntKind.wrap .i64 14 = 14 := by decide
theorem fc89_9 : IntKind.wrap .i64 15 = 15 := by decide
theorem fc89_10 : IntKind.wrap .i64 156 = 156 := by decide
theorem fc89_11 : IntKind.wrap .i64 16 = 16 := by decide
theorem fc89_12 : IntKind.wrap .i64 17 = 17 := by decide
theorem fc89_13 : IntKind.wrap .i64 2 = 2 := by decide
theorem fc89_14 : IntKind.wrap .i64 20 = 20 := by decide
theorem fc89_15 : IntKind.wrap .i64 210 = 210 := by decide
theorem fc89_16 : IntKind.wrap .i64 272 = 272 := by decide
theorem fc89_17 : IntKind.wrap .i64 3 = 3 := by decide
theorem fc89_18 : IntKind.wrap .i64 4 = 4 := by decide
theorem fc89_19 : IntKind.wrap .i64 42 = 42 := by decide
theorem fc89_20 : IntKind.wrap .i64 5 = 5 := by decide
theorem fc89_21 : IntKind.wrap .i64 6 = 6 := by decide
theorem fc89_22 : IntKind.wrap .i64 7 = 7 := by decide
theorem fc89_23 : IntKind.wrap .i64 72 = 72 := by decide
theorem fc89_24 : IntKind.wrap .i64 8 = 8 := by decide
theorem fc89_25 : IntKind.wrap .i64 9 = 9 := by decide
theorem s89 : ∀ vs r, g_spec_l02Mend vs = some r → Says Try.prog 89 vs r := by
  intro vs r h
  unfold g_spec_l02Mend at h
  split at h
  · rename_i y0 y1 y2 y3
    split at h
    · rename_i hp
      cases h
      refine spec_of (tab := tabOf [(37, g_spec_l01Sqrt), (58, g_spec_l01Finite), (82, g_spec_l02No), (101, g_spec_l02Inner)]) (cp := cp89) (ic := ic89) (rvl := [(.c 2 (some 4))]) hm (tabOk_cons s37 (tabOk_cons s58 (tabOk_cons s82 (tabOk_cons s101 tabOk_nil)))) Try.func89 rfl rfl rfl (by kernel_rfl) rfl (Nat.le_of_ble_eq_true rfl) ?_
      show eA _ _ _ _
      unfold ic89
      simp only [p_spec_l02Mend, Bool.and_eq_true, Bool.or_eq_true, decide_eq_true_eq, Bool.not_eq_true', decide_eq_false_iff_not] at hp
      simp only [
          hp, eA_seq, eA_reg, eA_ret, eA_skip, eA_cond, eA_block, eA_exit, eCc_true, eCc_false, Kq_normal, Kq_ret, Kq_exit, Kb_normal, Kb_exit, Kb_ret, Kreg_eq, eI_nil, bindSt_some,
                bindSt_none, bindSt_ite, eR_eq, eGI_tt, eGI_ff, eGI_tf, eGI_ft, eop, vop, ev_t, ev_c, ev_f, Option.map, put_some, put_none, set_eq, setH_eq, get_eq, hp_eq,
                keep_cons, keep_nil, lk_cons, lk_nil, startSt, envOf, reduceIte, Nat.reduceEqDiff, Nat.reduceAdd, Nat.zero_add, Nat.add_zero, Nat.reduceMul, Nat.reduceLT,
                Nat.reduceLeDiff, bop, uop, intop, fltop, convop, true_or, or_true, Bool.false_eq_true, ret_ok, ret_normal, outV, rvV, rvs, ex_some, pureV, pureX, pureX.pure1',
                pure1, Bool.true_and, Bool.false_and, Bool.and_true, Bool.and_false, Option.isNone_none, AV.cells, AV.one, storable, laid, refless, refless1, List.all_cons,
                List.all_nil, List.length_cons, List.length_nil, List.getElem?_cons_zero, List.getElem?_cons_succ, List.set_cons_zero, List.set_cons_succ, List.set_nil,
                List.map_cons, List.map_nil, vload, loadC, storeC, vnil, vfaddr, vextract, callTo, List.mapM_cons, List.mapM_nil, Option.pure_def, Option.bind_eq_bind,
                Option.bind_some, tabOf_cons, flatT, flatE, flatC, and_self, and_true, true_and, implies_true, forall_const, not_true_eq_false, not_false_eq_true, false_implies,
                List.take_succ_cons, List.drop_succ_cons, List.take_zero, List.drop_zero, Bool.not_true, Bool.not_false, beq_self_eq_true, decide_true, decide_false, eq_self,
                Int.reduceEq, Int.reduceLE, Int.reduceLT, Bool.not_not, Bool.true_or, Bool.or_true, Bool.false_or, Bool.or_false, if_true, if_false, List.getElem?_nil, Kl_normal,
                Kl_exit, Kl_ret, fc89_0, fc89_1, fc89_2, fc89_3, fc89_4, fc89_5, fc89_6, fc89_7, fc89_8, fc89_9, fc89_10, fc89_11, fc89_12, fc89_13, fc89_14, fc89_15, fc89_16,
                fc89_17, fc89_18, fc89_19, fc89_20, fc89_21, fc89_22, fc89_23, fc89_24, fc89_25, cast_lit, toNat_lit, Int.reduceAdd, Int.reduceSub, Int.reduceMul, Int.reduceNeg,
                Int.reducePow, Nat.reducePow, Int.reduceToNat, Nat.reduceSub, Nat.mul_one, Int.toNat_zero, prod_eta, List.nil_append, List.cons_append, List.append_nil, Int.le_refl,
                Nat.le_refl, true_implies, take_all, vconv, vmm, vidxA, viaddrA, iaddr_sl, iaddr_lsl, getE, vfield, vlen, fillC, fillE, List.replicate, elemsOf, List.length_map,
                f2iK_eq, bits_i64, bits_i32, bits_u64, bits_u32, bits_u8, e_mov, g_mov, e_pick, g_pick, e_alloc, g_alloc, e_box, g_box, e_build, g_build, e_load, g_load, e_store,
                g_store, e_bin, g_bin, e_un, g_un, e_faddr, g_faddr, e_call, g_call, g_spec_l01Sqrt, g_spec_l01Finite, g_spec_l02No, g_spec_l02Inner, dF32_map, dF64_map, dI64_map,
                dU8_map, dBool_map, dStr_map, decL, dF32, dF64, dI64, dU8, dBool, dStr, ↓b_pick, ePk_true, ePk_false]
      repeat' (first
        | ((first | (refine eGI_of (fun h => ?_) (fun h => ?_)) | (refine eCc_of (fun h => ?_) (fun h => ?_)) | (refine ePk_of (fun h => ?_) (fun h => ?_))) <;> (try simp only [Bool.not_eq_true', Bool.not_eq_false'] at h) <;> (try simp only [h, reduceCtorEq, Bool.not_eq_true', decide_eq_false_iff_not, Bool.not_true, Bool.not_false, Bool.false_or, Bool.true_or, Bool.true_and, Bool.false_and, Bool.and_eq_true, Bool.or_eq_true, if_true, if_false, reduceIte, Bool.false_eq_true, and_true, true_and, false_or, or_false, decide_eq_true_eq, not_false_eq_true, not_true_eq_false] at hp) <;> (try (have h2 := h; simp only [decide_eq_true_eq, decide_eq_false_iff_not] at h2; (first | (replace h2 := eq_false h2) | (replace h2 := eq_true h2)); simp only [h2, if_true, if_false, false_or, true_or, or_true, or_false, and_true, true_and, not_false_eq_true, not_true_eq_false] at hp)) <;> simp only [h,
          hp, eA_seq, eA_reg, eA_ret, eA_skip, eA_cond, eA_block, eA_exit, eCc_true, eCc_false, Kq_normal, Kq_ret, Kq_exit, Kb_normal, Kb_exit, Kb_ret, Kreg_eq, eI_nil, bindSt_some,
                bindSt_none, bindSt_ite, eR_eq, eGI_tt, eGI_ff, eGI_tf, eGI_ft, eop, vop, ev_t, ev_c, ev_f, Option.map, put_some, put_none, set_eq, setH_eq, get_eq, hp_eq,
                keep_cons, keep_nil, lk_cons, lk_nil, startSt, envOf, reduceIte, Nat.reduceEqDiff, Nat.reduceAdd, Nat.zero_add, Nat.add_zero, Nat.reduceMul, Nat.reduceLT,
                Nat.reduceLeDiff, bop, uop, intop, fltop, convop, true_or, or_true, Bool.false_eq_true, ret_ok, ret_normal, outV, rvV, rvs, ex_some, pureV, pureX, pureX.pure1',
                pure1, Bool.true_and, Bool.false_and, Bool.and_true, Bool.and_false, Option.isNone_none, AV.cells, AV.one, storable, laid, refless, refless1, List.all_cons,
                List.all_nil, List.length_cons, List.length_nil, List.getElem?_cons_zero, List.getElem?_cons_succ, List.set_cons_zero, List.set_cons_succ, List.set_nil,
                List.map_cons, List.map_nil, vload, loadC, storeC, vnil, vfaddr, vextract, callTo, List.mapM_cons, List.mapM_nil, Option.pure_def, Option.bind_eq_bind,
                Option.bind_some, tabOf_cons, flatT, flatE, flatC, and_self, and_true, true_and, implies_true, forall_const, not_true_eq_false, not_false_eq_true, false_implies,
                List.take_succ_cons, List.drop_succ_cons, List.take_zero, List.drop_zero, Bool.not_true, Bool.not_false, beq_self_eq_true, decide_true, decide_false, eq_self,
                Int.reduceEq, Int.reduceLE, Int.reduceLT, Bool.not_not, Bool.true_or, Bool.or_true, Bool.false_or, Bool.or_false, if_true, if_false, List.getElem?_nil, Kl_normal,
                Kl_exit, Kl_ret, fc89_0, fc89_1, fc89_2, fc89_3, fc89_4, fc89_5, fc89_6, fc89_7, fc89_8, fc89_9, fc89_10, fc89_11, fc89_12, fc89_13, fc89_14, fc89_15, fc89_16,
                fc89_17, fc89_18, fc89_19, fc89_20, fc89_21, fc89_22, fc89_23, fc89_24, fc89_25, cast_lit, toNat_lit, Int.reduceAdd, Int.reduceSub, Int.reduceMul, Int.reduceNeg,
                Int.reducePow, Nat.reducePow, Int.reduceToNat, Nat.reduceSub, Nat.mul_one, Int.toNat_zero, prod_eta, List.nil_append, List.cons_append, List.append_nil, Int.le_refl,
                Nat.le_refl, true_implies, take_all, vconv, vmm, vidxA, viaddrA, iaddr_sl, iaddr_lsl, getE, vfield, vlen, fillC, fillE, List.replicate, elemsOf, List.length_map,
                f2iK_eq, bits_i64, bits_i32, bits_u64, bits_u32, bits_u8, e_mov, g_mov, e_pick, g_pick, e_alloc, g_alloc, e_box, g_box, e_build, g_build, e_load, g_load, e_store,
                g_store, e_bin, g_bin, e_un, g_un, e_faddr, g_faddr, e_call, g_call, g_spec_l01Sqrt, g_spec_l01Finite, g_spec_l02No, g_spec_l02Inner, dF32_map, dF64_map, dI64_map,
                dU8_map, dBool_map, dStr_map, decL, dF32, dF64, dI64, dU8, dBool, dStr, ↓b_pick, ePk_true, ePk_false]))
      all_goals (try simp only [*, m_spec_l02Mend, Bool.and_true, Bool.true_and, Bool.and_false, Bool.false_and, Bool.or_true, Bool.true_or, Bool.or_false, Bool.false_or, Bool.not_true, Bool.not_false, Bool.false_eq_true, if_true, if_false, reduceIte, decide_true, decide_false])
      all_goals (try (simp_all; done))
    · cases h
  · cases h
def v_spec_l02Between_0 (x0 : (Nat × Nat × Nat)) (x1 : (Nat × Nat × Nat)) : Bool := (flt .f32 (fdiv .f32 (fmul .f32 (m_spec_l01Long x0) (m_spec_l01Long x1)) 1149239296) (fadd .f32
      (fmul .f32 (m_spec_l01Long x0) (m_spec_l01Long x1)) (m_spec_l01Inner x0 x1)))
def v_spec_l02Between_1 (x0 : (Nat × Nat × Nat)) : Nat := (if (fle .f32 (m_spec_l01Long (m_spec_l01Cross x0 (1065353216, 0, 0))) (fdiv .f32 (m_spec_l01Long x0) 1149239296)) = true
      then (m_spec_l01Cross x0 (0, 1065353216, 0)) else (m_spec_l01Cross x0 (1065353216, 0, 0))).1
def v_spec_l02Between_2 (x0 : (Nat × Nat × Nat)) : Nat := (if (fle .f32 (m_spec_l01Long (m_spec_l01Cross x0 (1065353216, 0, 0))) (fdiv .f32 (m_spec_l01Long x0) 1149239296)) = true
      then (m_spec_l01Cross x0 (0, 1065353216, 0)) else (m_spec_l01Cross x0 (1065353216, 0, 0))).2.1
def v_spec_l02Between_3 (x0 : (Nat × Nat × Nat)) : Nat := (if (fle .f32 (m_spec_l01Long (m_spec_l01Cross x0 (1065353216, 0, 0))) (fdiv .f32 (m_spec_l01Long x0) 1149239296)) = true
      then (m_spec_l01Cross x0 (0, 1065353216, 0)) else (m_spec_l01Cross x0 (1065353216, 0, 0))).2.2
def m_spec_l02Between (x0 : (Nat × Nat × Nat)) (x1 : (Nat × Nat × Nat)) : (Nat × Nat × Nat × Nat) := (if (v_spec_l02Between_0 x0 x1) = true then (m_spec_l02Mend ((fadd .f32 (fmul
      .f32 (m_spec_l01Long x0) (m_spec_l01Long x1)) (m_spec_l01Inner x0 x1)), (m_spec_l01Cross x0 x1).1, (m_spec_l01Cross x0 x1).2.1, (m_spec_l01Cross x0 x1).2.2)) else
      (m_spec_l02Mend (0, (v_spec_l02Between_1 x0), (v_spec_l02Between_2 x0), (v_spec_l02Between_3 x0))))
def p_spec_l02Between (x0 : (Nat × Nat × Nat)) (x1 : (Nat × Nat × Nat)) : Bool := ((p_spec_l01Long x0) && ((p_spec_l01Long x1) && (if (v_spec_l02Between_0 x0 x1) = true then
      (p_spec_l02Mend ((fadd .f32 (fmul .f32 (m_spec_l01Long x0) (m_spec_l01Long x1)) (m_spec_l01Inner x0 x1)), (m_spec_l01Cross x0 x1).1, (m_spec_l01Cross x0 x1).2.1,
      (m_spec_l01Cross x0 x1).2.2)) else ((p_spec_l01Long (m_spec_l01Cross x0 (1065353216, 0, 0))) && (p_spec_l02Mend (0, (v_spec_l02Between_1 x0), (v_spec_l02Between_2 x0),
      (v_spec_l02Between_3 x0)))))))
def g_spec_l02Between : List AV → Option AV
  | [.agg [.flt .f32 y0, .flt .f32 y1, .flt .f32 y2], .agg [.flt .f32 y3, .flt .f32 y4, .flt .f32 y5]] => if p_spec_l02Between (y0, y1,
      y2) (y3, y4, y5) = true then some (AV.agg [(.flt .f32 (m_spec_l02Between (y0, y1, y2) (y3, y4, y5)).1), (.flt .f32 (m_spec_l02Between (y0, y1, y2) (y3, y4, y5)).2.1), (.flt
      .f32 (m_spec_l02Between (y0, y1, y2) (y3, y4, y5)).2.2.1), (.flt .f32 (m_spec_l02Between (y0, y1, y2) (y3, y4, y5)).2.2.2)]) else none
  | _ => none
def ic69 : ICode := (.seq (.reg [⟨(some 2), none, (.box 3 (.t 0))⟩, ⟨(some 3), none, (.box 3 (.t 1))⟩, ⟨(some 4), none, (.alloc (.agg [(.flt .f32 0), (.flt .f32 0), (.flt .f32 0),
      (.flt .f32 0)]))⟩] [2, 3, 4]) (.seq (.reg [⟨(some 9), none, (.load (some 3) (.t 2))⟩, ⟨(some 10), none, (.call (.fn 35) [(.t 9)] [])⟩, ⟨(some 11), none, (.load (some 3) (.t
      3))⟩, ⟨(some 12), none, (.call (.fn 35) [(.t 11)] [])⟩, ⟨(some 13), none, (.bin .mul false (.t 10) (.t 12))⟩, ⟨(some 5), none, (.mov (.t 13))⟩] [2, 3, 4, 5]) (.seq (.reg
      [⟨(some 14), none, (.mov (.t 5))⟩, ⟨(some 15), none, (.load (some 3) (.t 2))⟩, ⟨(some 16), none, (.load (some 3) (.t 3))⟩, ⟨(some 17), none, (.call (.fn 40) [(.t 15), (.t 16)]
      [])⟩, ⟨(some 18), none, (.bin .add false (.t 14) (.t 17))⟩, ⟨(some 6), none, (.mov (.t 18))⟩] [2, 3, 4, 5, 6]) (.seq (.seq (.reg [⟨(some 19), none, (.mov (.t 6))⟩, ⟨(some 20),
      none, (.mov (.t 5))⟩, ⟨(some 21), none, (.bin .quo false (.t 20) (.c (.flt .f32 1149239296)))⟩, ⟨(some 22), none, (.bin .gtr false (.t 19) (.t 21))⟩] [2, 3, 4, 6, 22]) (.cond
      (.t 22) (.seq (.reg [⟨(some 23), none, (.load (some 3) (.t 2))⟩, ⟨(some 24), none, (.load (some 3) (.t 3))⟩, ⟨(some 25), none, (.call (.fn 88) [(.t 23), (.t 24)] [])⟩, ⟨(some
      7), none, (.alloc (.agg [(.flt .f32 0), (.flt .f32 0), (.flt .f32 0)]))⟩, ⟨none, none, (.store 3 (.t 7) (.t 25))⟩] [4, 6, 7]) (.seq (.reg [⟨(some 26), none, (.mov (.t 6))⟩,
      ⟨(some 27), none, (.faddr 0 (.t 7))⟩, ⟨(some 28), none, (.load none (.t 27))⟩, ⟨(some 29), none, (.faddr 1 (.t 7))⟩, ⟨(some 30), none, (.load none (.t 29))⟩, ⟨(some 31), none,
      (.faddr 2 (.t 7))⟩, ⟨(some 32), none, (.load none (.t 31))⟩, ⟨(some 33), none, (.build [(.flt .f32 0), (.flt .f32 0), (.flt .f32 0), (.flt .f32 0)] [(0, 1, (.t 26)), (1, 1,
      (.t 28)), (2, 1, (.t 30)), (3, 1, (.t 32))])⟩, ⟨(some 34), none, (.call (.fn 89) [(.t 33)] [])⟩, ⟨none, none, (.store 4 (.t 4) (.t 34))⟩] [4]) .ret)) .skip)) (.seq (.reg
      [⟨(some 35), none, (.load (some 3) (.t 2))⟩, ⟨(some 36), none, (.build [(.flt .f32 0), (.flt .f32 0), (.flt .f32 0)] [(0, 1, (.c (.flt .f32 1065353216)))])⟩, ⟨(some 37), none,
      (.call (.fn 88) [(.t 35), (.t 36)] [])⟩, ⟨(some 8), none, (.alloc (.agg [(.flt .f32 0), (.flt .f32 0), (.flt .f32 0)]))⟩, ⟨none, none, (.store 3 (.t 8) (.t 37))⟩] [2, 4, 8])
      (.seq (.seq (.reg [⟨(some 38), none, (.load (some 3) (.t 8))⟩, ⟨(some 39), none, (.call (.fn 35) [(.t 38)] [])⟩, ⟨(some 40), none, (.load (some 3) (.t 2))⟩, ⟨(some 41), none,
      (.call (.fn 35) [(.t 40)] [])⟩, ⟨(some 42), none, (.bin .quo false (.t 41) (.c (.flt .f32 1149239296)))⟩, ⟨(some 43), none, (.bin .leq false (.t 39) (.t 42))⟩] [2, 4, 8, 43])
      (.cond (.t 43) (.reg [⟨(some 44), none, (.load (some 3) (.t 2))⟩, ⟨(some 45), none, (.build [(.flt .f32 0), (.flt .f32 0), (.flt .f32 0)] [(1, 1, (.c (.flt .f32
      1065353216)))])⟩, ⟨(some 46), none, (.call (.fn 88) [(.t 44), (.t 45)] [])⟩, ⟨none, none, (.store 3 (.t 8) (.t 46))⟩] [4, 8]) .skip)) (.seq (.reg [⟨(some 47), none, (.faddr 0
      (.t 8))⟩, ⟨(some 48), none, (.load none (.t 47))⟩, ⟨(some 49), none, (.faddr 1 (.t 8))⟩, ⟨(some 50), none, (.load none (.t 49))⟩, ⟨(some 51), none, (.faddr 2 (.t 8))⟩, ⟨(some
      52), none, (.load none (.t 51))⟩, ⟨(some 53), none, (.build [(.flt .f32 0), (.flt .f32 0), (.flt .f32 0), (.flt .f32 0)] [(1, 1, (.t 48)), (2, 1, (.t 50)), (3, 1, (.t 52))])⟩,
      ⟨(some 54), none, (.call (.fn 89) [(.t 53)] [])⟩, ⟨none, none, (.store 4 (.t 4) (.t 54))⟩] [4]) .ret)))))))
def cp69 : CP := { n := 55, kp := [[2, 3, 4], [2, 3, 4, 5], [2, 3, 4, 5, 6], [2, 3, 4, 6, 22], [4, 6, 7], [4], [2, 4, 8], [2, 4, 8, 43], [4, 8], [4]] }
theorem fc69_0 : IntKind.wrap .i64 (-1) = (-1) := by decide
theorem fc69_1 : IntKind.wrap .i64 0 = 0 := by decide
theorem fc69_2 : IntKind.wrap .i64 1 = 1 := by decide
theorem fc69_3 : IntKind.wrap .i64 10 = 10 := by decide
theorem fc69_4 : IntKind.wrap .i64 11 = 11 := by decide
theorem fc69_5 : IntKind.wrap .i64 110 = 110 := by decide
theorem fc69_6 : IntKind.wrap .i64 12 = 12 := by decide
theorem fc69_7 : IntKind.wrap .i64 13 = 13 := by decide
theorem fc69_8 : IntKind.wrap .i64 14 = 14 := by decide
theorem fc69_9 : IntKind.wrap .i64 15 = 15 := by decide
theorem fc69_10 : IntKind.wrap .i64 156 = 156 := by decide
theorem fc69_11 : IntKind.wrap .i64 16 = 16 := by decide
theorem fc69_12 : IntKind.wrap .i64 17 = 17 := by decide
theorem fc69_13 : IntKind.wrap .i64 2 = 2 := by decide
theorem fc69_14 : IntKind.wrap .i64 20 = 20 := by decide
theorem fc69_15 : IntKind.wrap .i64 210 = 210 := by decide
theorem fc69_16 : IntKind.wrap .i64 272 = 272 := by decide
theorem fc69_17 : IntKind.wrap .i64 3 = 3 := by decide
theorem fc69_18 : IntKind.wrap .i64 4 = 4 := by decide
theorem fc69_19 : IntKind.wrap .i64 42 = 42 := by decide
theorem fc69_20 : IntKind.wrap .i64 5 = 5 := by decide
theorem fc69_21 : IntKind.wrap .i64 6 = 6 := by decide
theorem fc69_22 : IntKind.wrap .i64 7 = 7 := by decide
theorem fc69_23 : IntKind.wrap .i64 72 = 72 := by decide
theorem fc69_24 : IntKind.wrap .i64 8 = 8 := by decide
theorem fc69_25 : IntKind.wrap .i64 9 = 9 := by decide
theorem s69 : ∀ vs r, g_spec_l02Between vs = some r → Says Try.prog 69 vs r := by
  intro vs r h
  unfold g_spec_l02Between at h
  split at h
  · rename_i y0 y1 y2 y3 y4 y5
    split at h
    · rename_i hp
      cases h
      refine spec_of (tab := tabOf [(35, g_spec_l01Long), (40, g_spec_l01Inner), (88, g_spec_l01Cross), (89, g_spec_l02Mend)]) (cp := cp69) (ic := ic69) (rvl := [(.c 4 (some 4))]) hm (tabOk_cons s35 (tabOk_cons s40 (tabOk_cons s88 (tabOk_cons s89 tabOk_nil)))) Try.func69 rfl rfl rfl (by kernel_rfl) rfl (Nat.le_of_ble_eq_true rfl) ?_
      show eA _ _ _ _
      unfold ic69
      simp only [p_spec_l02Between, v_spec_l02Between_0, v_spec_l02Between_1, v_spec_l02Between_2, v_spec_l02Between_3, Bool.and_eq_true, Bool.or_eq_true, decide_eq_true_eq, Bool.not_eq_true', decide_eq_false_iff_not] at hp
      simp only [
          hp, eA_seq, eA_reg, eA_ret, eA_skip, eA_cond, eA_block, eA_exit, eCc_true, eCc_false, Kq_normal, Kq_ret, Kq_exit, Kb_normal, Kb_exit, Kb_ret, Kreg_eq, eI_nil, bindSt_some,
                bindSt_none, bindSt_ite, eR_eq, eGI_tt, eGI_ff, eGI_tf, eGI_ft, eop, vop, ev_t, ev_c, ev_f, Option.map, put_some, put_none, set_eq, setH_eq, get_eq, hp_eq,
                keep_cons, keep_nil, lk_cons, lk_nil, startSt, envOf, reduceIte, Nat.reduceEqDiff, Nat.reduceAdd, Nat.zero_add, Nat.add_zero, Nat.reduceMul, Nat.reduceLT,
                Nat.reduceLeDiff, bop, uop, intop, fltop, convop, true_or, or_true, Bool.false_eq_true, ret_ok, ret_normal, outV, rvV, rvs, ex_some, pureV, pureX, pureX.pure1',
                pure1, Bool.true_and, Bool.false_and, Bool.and_true, Bool.and_false, Option.isNone_none, AV.cells, AV.one, storable, laid, refless, refless1, List.all_cons,
                List.all_nil, List.length_cons, List.length_nil, List.getElem?_cons_zero, List.getElem?_cons_succ, List.set_cons_zero, List.set_cons_succ, List.set_nil,
                List.map_cons, List.map_nil, vload, loadC, storeC, vnil, vfaddr, vextract, callTo, List.mapM_cons, List.mapM_nil, Option.pure_def, Option.bind_eq_bind,
                Option.bind_some, tabOf_cons, flatT, flatE, flatC, and_self, and_true, true_and, implies_true, forall_const, not_true_eq_false, not_false_eq_true, false_implies,
                List.take_succ_cons, List.drop_succ_cons, List.take_zero, List.drop_zero, Bool.not_true, Bool.not_false, beq_self_eq_true, decide_true, decide_false, eq_self,
                Int.reduceEq, Int.reduceLE, Int.reduceLT, Bool.not_not, Bool.true_or, Bool.or_true, Bool.false_or, Bool.or_false, if_true, if_false, List.getElem?_nil, Kl_normal,
                Kl_exit, Kl_ret, fc69_0, fc69_1, fc69_2, fc69_3, fc69_4, fc69_5, fc69_6, fc69_7, fc69_8, fc69_9, fc69_10, fc69_11, fc69_12, fc69_13, fc69_14, fc69_15, fc69_16,
                fc69_17, fc69_18, fc69_19, fc69_20, fc69_21, fc69_22, fc69_23, fc69_24, fc69_25, cast_lit, toNat_lit, Int.reduceAdd, Int.reduceSub, Int.reduceMul, Int.reduceNeg,
                Int.reducePow, Nat.reducePow, Int.reduceToNat, Nat.reduceSub, Nat.mul_one, Int.toNat_zero, prod_eta, List.nil_append, List.cons_append, List.append_nil, Int.le_refl,
                Nat.le_refl, true_implies, take_all, vconv, vmm, vidxA, viaddrA, iaddr_sl, iaddr_lsl, getE, vfield, vlen, fillC, fillE, List.replicate, elemsOf, List.length_map,
                f2iK_eq, bits_i64, bits_i32, bits_u64, bits_u32, bits_u8, e_mov, g_mov, e_alloc, g_alloc, e_box, g_box, e_build, g_build, e_load, g_load, e_store, g_store, e_bin,
                g_bin, e_faddr, g_faddr, e_call, g_call, g_spec_l01Long, g_spec_l01Inner, g_spec_l01Cross, g_spec_l02Mend, dF32_map, dF64_map, dI64_map, dU8_map, dBool_map,
                dStr_map, decL, dF32, dF64, dI64, dU8, dBool, dStr]
      repeat' (first
        | ((first | (refine eGI_of (fun h => ?_) (fun h => ?_)) | (refine eCc_of (fun h => ?_) (fun h => ?_))) <;> (try simp only [Bool.not_eq_true', Bool.not_eq_false'] at h) <;> (try simp only [h, reduceCtorEq, Bool.not_eq_true', decide_eq_false_iff_not, Bool.not_true, Bool.not_false, Bool.false_or, Bool.true_or, Bool.true_and, Bool.false_and, Bool.and_eq_true, Bool.or_eq_true, if_true, if_false, reduceIte, Bool.false_eq_true, and_true, true_and, false_or, or_false, decide_eq_true_eq, not_false_eq_true, not_true_eq_false] at hp) <;> (try (have h2 := h; simp only [decide_eq_true_eq, decide_eq_false_iff_not] at h2; (first | (replace h2 := eq_false h2) | (replace h2 := eq_true h2)); simp only [h2, if_true, if_false, false_or, true_or, or_true, or_false, and_true, true_and, not_false_eq_true, not_true_eq_false] at hp)) <;> simp only [h,
          hp, eA_seq, eA_reg, eA_ret, eA_skip, eA_cond, eA_block, eA_exit, eCc_true, eCc_false, Kq_normal, Kq_ret, Kq_exit, Kb_normal, Kb_exit, Kb_ret, Kreg_eq, eI_nil, bindSt_some,
                bindSt_none, bindSt_ite, eR_eq, eGI_tt, eGI_ff, eGI_tf, eGI_ft, eop, vop, ev_t, ev_c, ev_f, Option.map, put_some, put_none, set_eq, setH_eq, get_eq, hp_eq,
                keep_cons, keep_nil, lk_cons, lk_nil, startSt, envOf, reduceIte, Nat.reduceEqDiff, Nat.reduceAdd, Nat.zero_add, Nat.add_zero, Nat.reduceMul, Nat.reduceLT,
                Nat.reduceLeDiff, bop, uop, intop, fltop, convop, true_or, or_true, Bool.false_eq_true, ret_ok, ret_normal, outV, rvV, rvs, ex_some, pureV, pureX, pureX.pure1',
                pure1, Bool.true_and, Bool.false_and, Bool.and_true, Bool.and_false, Option.isNone_none, AV.cells, AV.one, storable, laid, refless, refless1, List.all_cons,
                List.all_nil, List.length_cons, List.length_nil, List.getElem?_cons_zero, List.getElem?_cons_succ, List.set_cons_zero, List.set_cons_succ, List.set_nil,
                List.map_cons, List.map_nil, vload, loadC, storeC, vnil, vfaddr, vextract, callTo, List.mapM_cons, List.mapM_nil, Option.pure_def, Option.bind_eq_bind,
                Option.bind_some, tabOf_cons, flatT, flatE, flatC, and_self, and_true, true_and, implies_true, forall_const, not_true_eq_false, not_false_eq_true, false_implies,
                List.take_succ_cons, List.drop_succ_cons, List.take_zero, List.drop_zero, Bool.not_true, Bool.not_false, beq_self_eq_true, decide_true, decide_false, eq_self,
                Int.reduceEq, Int.reduceLE, Int.reduceLT, Bool.not_not, Bool.true_or, Bool.or_true, Bool.false_or, Bool.or_false, if_true, if_false, List.getElem?_nil, Kl_normal,
                Kl_exit, Kl_ret, fc69_0, fc69_1, fc69_2, fc69_3, fc69_4, fc69_5, fc69_6, fc69_7, fc69_8, fc69_9, fc69_10, fc69_11, fc69_12, fc69_13, fc69_14, fc69_15, fc69_16,
                fc69_17, fc69_18, fc69_19, fc69_20, fc69_21, fc69_22, fc69_23, fc69_24, fc69_25, cast_lit, toNat_lit, Int.reduceAdd, Int.reduceSub, Int.reduceMul, Int.reduceNeg,
                Int.reducePow, Nat.reducePow, Int.reduceToNat, Nat.reduceSub, Nat.mul_one, Int.toNat_zero, prod_eta, List.nil_append, List.cons_append, List.append_nil, Int.le_refl,
                Nat.le_refl, true_implies, take_all, vconv, vmm, vidxA, viaddrA, iaddr_sl, iaddr_lsl, getE, vfield, vlen, fillC, fillE, List.replicate, elemsOf, List.length_map,
                f2iK_eq, bits_i64, bits_i32, bits_u64, bits_u32, bits_u8, e_mov, g_mov, e_alloc, g_alloc, e_box, g_box, e_build, g_build, e_load, g_load, e_store, g_store, e_bin,
                g_bin, e_faddr, g_faddr, e_call, g_call, g_spec_l01Long, g_spec_l01Inner, g_spec_l01Cross, g_spec_l02Mend, dF32_map, dF64_map, dI64_map, dU8_map, dBool_map,
                dStr_map, decL, dF32, dF64, dI64, dU8, dBool, dStr]))
      all_goals (try simp only [*, m_spec_l02Between, v_spec_l02Between_0, v_spec_l02Between_1, v_spec_l02Between_2, v_spec_l02Between_3, Bool.and_true, Bool.true_and, Bool.and_false, Bool.false_and, Bool.or_true, Bool.true_or, Bool.or_false, Bool.false_or, Bool.not_true, Bool.not_false, Bool.false_eq_true, if_true, if_false, reduceIte, decide_true, decide_false])
      all_goals (try (simp_all; done))
    · cases h
  · cases h
def m_spec_l02Axis (x0 : (Nat × Nat × Nat × Nat)) : (Nat × Nat × Nat) := (x0.2.1, x0.2.2.1, x0.2.2.2)
def g_spec_l02Axis : List AV → Option AV
  | [.agg [.flt .f32 y0, .flt .f32 y1, .flt .f32 y2, .flt .f32 y3]] => some (AV.agg [(.flt .f32 (m_spec_l02Axis (y0, y1, y2, y3)).1), (.flt
      .f32 (m_spec_l02Axis (y0, y1, y2, y3)).2.1), (.flt .f32 (m_spec_l02Axis (y0, y1, y2, y3)).2.2)])
  | _ => none
def ic76 : ICode := (.seq (.reg [⟨(some 1), none, (.box 4 (.t 0))⟩, ⟨(some 2), none, (.alloc (.agg [(.flt .f32 0), (.flt .f32 0), (.flt .f32 0)]))⟩] [1, 2]) (.seq (.reg [⟨(some 3),
      none, (.faddr 1 (.t 1))⟩, ⟨(some 4), none, (.load none (.t 3))⟩, ⟨(some 5), none, (.faddr 2 (.t 1))⟩, ⟨(some 6), none, (.load none (.t 5))⟩, ⟨(some 7), none, (.faddr 3 (.t
      1))⟩, ⟨(some 8), none, (.load none (.t 7))⟩, ⟨(some 9), none, (.build [(.flt .f32 0), (.flt .f32 0), (.flt .f32 0)] [(0, 1, (.t 4)), (1, 1, (.t 6)), (2, 1, (.t 8))])⟩, ⟨none,
      none, (.store 3 (.t 2) (.t 9))⟩] [2]) .ret))
def cp76 : CP := { n := 10, kp := [[1, 2], [2]] }
theorem fc76_0 : IntKind.wrap .i64 (-1) = (-1) := by decide
theorem fc76_1 : IntKind.wrap .i64 0 = 0 := by decide
theorem fc76_2 : IntKind.wrap .i64 1 = 1 := by decide
theorem fc76_3 : IntKind.wrap .i64 10 = 10 := by decide
theorem fc76_4 : IntKind.wrap .i64 11 = 11 := by decide
theorem fc76_5 : IntKind.wrap .i64 110 = 110 := by decide
theorem fc76_6 : IntKind.wrap .i64 12 = 12 := by decide
theorem fc76_7 : IntKind.wrap .i64 13 = 13 := by decide
theorem fc76_8 : IntKind.wrap .i64 14 = 14 := by decide
theorem fc76_9 : IntKind.wrap .i64 15 = 15 := by decide
theorem fc76_10 : IntKind.wrap .i64 156 = 156 := by decide
theorem fc76_11 : IntKind.wrap .i64 16 = 16 := by decide
theorem fc76_12 : IntKind.wrap .i64 17 = 17 := by decide
theorem fc76_13 : IntKind.wrap .i64 2 = 2 := by decide
theorem fc76_14 : IntKind.wrap .i64 20 = 20 := by decide
theorem fc76_15 : IntKind.wrap .i64 210 = 210 := by decide
theorem fc76_16 : IntKind.wrap .i64 272 = 272 := by decide
theorem fc76_17 : IntKind.wrap .i64 3 = 3 := by decide
theorem fc76_18 : IntKind.wrap .i64 4 = 4 := by decide
theorem fc76_19 : IntKind.wrap .i64 42 = 42 := by decide
theorem fc76_20 : IntKind.wrap .i64 5 = 5 := by decide
theorem fc76_21 : IntKind.wrap .i64 6 = 6 := by decide
theorem fc76_22 : IntKind.wrap .i64 7 = 7 := by decide
theorem fc76_23 : IntKind.wrap .i64 72 = 72 := by decide
theorem fc76_24 : IntKind.wrap .i64 8 = 8 := by decide
theorem fc76_25 : IntKind.wrap .i64 9 = 9 := by decide
theorem s76 : ∀ vs r, g_spec_l02Axis vs = some r → Says Try.prog 76 vs r := by
  intro vs r h
  unfold g_spec_l02Axis at h
  split at h
  · rename_i y0 y1 y2 y3
    cases h
    refine spec_of (tab := tabOf []) (cp := cp76) (ic := ic76) (rvl := [(.c 2 (some 3))]) hm tabOk_nil Try.func76 rfl rfl rfl (by kernel_rfl) rfl (Nat.le_of_ble_eq_true rfl) ?_
    show eA _ _ _ _
    unfold ic76
    simp only [
        eA_seq, eA_reg, eA_ret, eA_skip, eA_cond, eA_block, eA_exit, eCc_true, eCc_false, Kq_normal, Kq_ret, Kq_exit, Kb_normal, Kb_exit, Kb_ret, Kreg_eq, eI_nil, bindSt_some,
              bindSt_none, bindSt_ite, eR_eq, eGI_tt, eGI_ff, eGI_tf, eGI_ft, eop, vop, ev_t, ev_c, ev_f, Option.map, put_some, put_none, set_eq, setH_eq, get_eq, hp_eq, keep_cons,
              keep_nil, lk_cons, lk_nil, startSt, envOf, reduceIte, Nat.reduceEqDiff, Nat.reduceAdd, Nat.zero_add, Nat.add_zero, Nat.reduceMul, Nat.reduceLT, Nat.reduceLeDiff, bop,
              uop, intop, fltop, convop, true_or, or_true, Bool.false_eq_true, ret_ok, ret_normal, outV, rvV, rvs, ex_some, pureV, pureX, pureX.pure1', pure1, Bool.true_and,
              Bool.false_and, Bool.and_true, Bool.and_false, Option.isNone_none, AV.cells, AV.one, storable, laid, refless, refless1, List.all_cons, List.all_nil, List.length_cons,
              List.length_nil, List.getElem?_cons_zero, List.getElem?_cons_succ, List.set_cons_zero, List.set_cons_succ, List.set_nil, List.map_cons, List.map_nil, vload, loadC,
              storeC, vnil, vfaddr, vextract, callTo, List.mapM_cons, List.mapM_nil, Option.pure_def, Option.bind_eq_bind, Option.bind_some, tabOf_cons, flatT, flatE, flatC,
              and_self, and_true, true_and, implies_true, forall_const, not_true_eq_false, not_false_eq_true, false_implies, List.take_succ_cons, List.drop_succ_cons,
              List.take_zero, List.drop_zero, Bool.not_true, Bool.not_false, beq_self_eq_true, decide_true, decide_false, eq_self, Int.reduceEq, Int.reduceLE, Int.reduceLT,
              Bool.not_not, Bool.true_or, Bool.or_true, Bool.false_or, Bool.or_false, if_true, if_false, List.getElem?_nil, Kl_normal, Kl_exit, Kl_ret, fc76_0, fc76_1, fc76_2,
              fc76_3, fc76_4, fc76_5, fc76_6, fc76_7, fc76_8, fc76_9, fc76_10, fc76_11, fc76_12, fc76_13, fc76_14, fc76_15, fc76_16, fc76_17, fc76_18, fc76_19, fc76_20, fc76_21,
              fc76_22, fc76_23, fc76_24, fc76_25, cast_lit, toNat_lit, Int.reduceAdd, Int.reduceSub, Int.reduceMul, Int.reduceNeg, Int.reducePow, Nat.reducePow, Int.reduceToNat,
              Nat.reduceSub, Nat.mul_one, Int.toNat_zero, prod_eta, List.nil_append, List.cons_append, List.append_nil, Int.le_refl, Nat.le_refl, true_implies, take_all, vconv, vmm,
              vidxA, viaddrA, iaddr_sl, iaddr_lsl, getE, vfield, vlen, fillC, fillE, List.replicate, elemsOf, List.length_map, f2iK_eq, bits_i64, bits_i32, bits_u64, bits_u32,
              bits_u8, e_alloc, g_alloc, e_box, g_box, e_build, g_build, e_load, g_load, e_store, g_store, e_faddr, g_faddr, dF32_map, dF64_map, dI64_map, dU8_map, dBool_map,
              dStr_map, decL, dF32, dF64, dI64, dU8, dBool, dStr]
    repeat' (first
      | ((first | (refine eGI_of (fun h => ?_) (fun h => ?_)) | (refine eCc_of (fun h => ?_) (fun h => ?_))) <;> (try simp only [Bool.not_eq_true', Bool.not_eq_false'] at h) <;> simp only [h,
        eA_seq, eA_reg, eA_ret, eA_skip, eA_cond, eA_block, eA_exit, eCc_true, eCc_false, Kq_normal, Kq_ret, Kq_exit, Kb_normal, Kb_exit, Kb_ret, Kreg_eq, eI_nil, bindSt_some,
              bindSt_none, bindSt_ite, eR_eq, eGI_tt, eGI_ff, eGI_tf, eGI_ft, eop, vop, ev_t, ev_c, ev_f, Option.map, put_some, put_none, set_eq, setH_eq, get_eq, hp_eq, keep_cons,
              keep_nil, lk_cons, lk_nil, startSt, envOf, reduceIte, Nat.reduceEqDiff, Nat.reduceAdd, Nat.zero_add, Nat.add_zero, Nat.reduceMul, Nat.reduceLT, Nat.reduceLeDiff, bop,
              uop, intop, fltop, convop, true_or, or_true, Bool.false_eq_true, ret_ok, ret_normal, outV, rvV, rvs, ex_some, pureV, pureX, pureX.pure1', pure1, Bool.true_and,
              Bool.false_and, Bool.and_true, Bool.and_false, Option.isNone_none, AV.cells, AV.one, storable, laid, refless, refless1, List.all_cons, List.all_nil, List.length_cons,
              List.length_nil, List.getElem?_cons_zero, List.getElem?_cons_succ, List.set_cons_zero, List.set_cons_succ, List.set_nil, List.map_cons, List.map_nil, vload, loadC,
              storeC, vnil, vfaddr, vextract, callTo, List.mapM_cons, List.mapM_nil, Option.pure_def, Option.bind_eq_bind, Option.bind_some, tabOf_cons, flatT, flatE, flatC,
              and_self, and_true, true_and, implies_true, forall_const, not_true_eq_false, not_false_eq_true, false_implies, List.take_succ_cons, List.drop_succ_cons,
              List.take_zero, List.drop_zero, Bool.not_true, Bool.not_false, beq_self_eq_true, decide_true, decide_false, eq_self, Int.reduceEq, Int.reduceLE, Int.reduceLT,
              Bool.not_not, Bool.true_or, Bool.or_true, Bool.false_or, Bool.or_false, if_true, if_false, List.getElem?_nil, Kl_normal, Kl_exit, Kl_ret, fc76_0, fc76_1, fc76_2,
              fc76_3, fc76_4, fc76_5, fc76_6, fc76_7, fc76_8, fc76_9, fc76_10, fc76_11, fc76_12, fc76_13, fc76_14, fc76_15, fc76_16, fc76_17, fc76_18, fc76_19, fc76_20, fc76_21,
              fc76_22, fc76_23, fc76_24, fc76_25, cast_lit, toNat_lit, Int.reduceAdd, Int.reduceSub, Int.reduceMul, Int.reduceNeg, Int.reducePow, Nat.reducePow, Int.reduceToNat,
              Nat.reduceSub, Nat.mul_one, Int.toNat_zero, prod_eta, List.nil_append, List.cons_append, List.append_nil, Int.le_refl, Nat.le_refl, true_implies, take_all, vconv, vmm,
              vidxA, viaddrA, iaddr_sl, iaddr_lsl, getE, vfield, vlen, fillC, fillE, List.replicate, elemsOf, List.length_map, f2iK_eq, bits_i64, bits_i32, bits_u64, bits_u32,
              bits_u8, e_alloc, g_alloc, e_box, g_box, e_build, g_build, e_load, g_load, e_store, g_store, e_faddr, g_faddr, dF32_map, dF64_map, dI64_map, dU8_map, dBool_map,
              dStr_map, decL, dF32, dF64, dI64, dU8, dBool, dStr]))
    all_goals (try simp only [*, m_spec_l02Axis, Bool.and_true, Bool.true_and, Bool.and_false, Bool.false_and, Bool.or_true, Bool.true_or, Bool.or_false, Bool.false_or, Bool.not_true, Bool.not_false, Bool.false_eq_true, if_true, if_false, reduceIte, decide_true, decide_false])
    all_goals (try (simp_all; done))
  · cases h
theorem s110 : ∀ vs r, g_f32bits vs = some r → Says Try.prog 110 vs r := t_f32bits Try.func110 (by kernel_rfl) rfl (by kernel_rfl) (by kernel_rfl)
def m_spec_l01Bits (x0 : Nat) : Int := (if (feq .f32 x0 x0) = true then (IntKind.wrap .i64 ((x0 : Nat) : Int)) else 2143289344)
def p_spec_l01Bits (x0 : Nat) : Bool := (!(feq .f32 x0 x0) || (feq .f32 x0 x0))
def g_spec_l01Bits : List AV → Option AV
  | [.flt .f32 y0] => if p_spec_l01Bits y0 = true then some (.int .i64 (m_spec_l01Bits y0)) else none
  | _ => none
def ic105 : ICode := (.seq (.reg [⟨(some 2), none, (.mov (.c (.int .i64 0)))⟩] [0]) (.seq (.seq (.reg [⟨(some 3), none, (.mov (.t 0))⟩, ⟨(some 4), none, (.mov (.t 0))⟩, ⟨(some 5),
      none, (.bin .neq false (.t 3) (.t 4))⟩] [0, 5]) (.cond (.t 5) (.seq (.reg [⟨(some 2), none, (.mov (.c (.int .i64 2143289344)))⟩] [2]) .ret) .skip)) (.seq (.reg [⟨(some 6),
      none, (.mov (.t 0))⟩, ⟨(some 7), none, (.call (.fn 110) [(.t 6)] [])⟩, ⟨(some 8), none, (.conv (.int .i64) (.t 7))⟩, ⟨(some 2), none, (.mov (.t 8))⟩] [2]) .ret)))
def cp105 : CP := { n := 9, kp := [[0], [0, 5], [2], [2]] }
theorem fc105_0 : IntKind.wrap .i64 (-1) = (-1) := by decide
theorem fc105_1 : IntKind.wrap .i64 0 = 0 := by decide
theorem fc105_2 : IntKind.wrap .i64 1 = 1 := by decide
theorem fc105_3 : IntKind.wrap .i64 10 = 10 := by decide
theorem fc105_4 : IntKind.wrap .i64 11 = 11 := by decide
theorem fc105_5 : IntKind.wrap .i64 110 = 110 := by decide
theorem fc105_6 : IntKind.wrap .i64 12 = 12 := by decide
theorem fc105_7 : IntKind.wrap .i64 13 = 13 := by decide
theorem fc105_8 : IntKind.wrap .i64 14 = 14 := by decide
theorem fc105_9 : IntKind.wrap .i64 15 = 15 := by decide
theorem fc105_10 : IntKind.wrap .i64 156 = 156 := by decide
theorem fc105_11 : IntKind.wrap .i64 16 = 16 := by decide
theorem fc105_12 : IntKind.wrap .i64 17 = 17 := by decide
theorem fc105_13 : IntKind.wrap .i64 2 = 2 := by decide
theorem fc105_14 : IntKind.wrap .i64 20 = 20 := by decide
theorem fc105_15 : IntKind.wrap .i64 210 = 210 := by decide
theorem fc105_16 : IntKind.wrap .i64 272 = 272 := by decide
theorem fc105_17 : IntKind.wrap .i64 3 = 3 := by decide
theorem fc105_18 : IntKind.wrap .i64 4 = 4 := by decide
theorem fc105_19 : IntKind.wrap .i64 42 = 42 := by decide
theorem fc105_20 : IntKind.wrap .i64 5 = 5 := by decide
theorem fc105_21 : IntKind.wrap .i64 6 = 6 := by decide
theorem fc105_22 : IntKind.wrap .i64 7 = 7 := by decide
theorem fc105_23 : IntKind.wrap .i64 72 = 72 := by decide
theorem fc105_24 : IntKind.wrap .i64 8 = 8 := by decide
theorem fc105_25 : IntKind.wrap .i64 9 = 9 := by decide
theorem s105 : ∀ vs r, g_spec_l01Bits vs = some r → Says Try.prog 105 vs r := by
  intro vs r h
  unfold g_spec_l01Bits at h
  split at h
  · rename_i y0
    split at h
    · rename_i hp
      cases h
      refine spec_of (tab := tabOf [(110, g_f32bits)]) (cp := cp105) (ic := ic105) (rvl := [(.t 2)]) hm (tabOk_cons s110 tabOk_nil) Try.func105 rfl rfl rfl (by kernel_rfl) rfl (Nat.le_of_ble_eq_true rfl) ?_
      show eA _ _ _ _
      unfold ic105
      simp only [p_spec_l01Bits, Bool.and_eq_true, Bool.or_eq_true, decide_eq_true_eq, Bool.not_eq_true', decide_eq_false_iff_not] at hp
      simp only [
          hp, eA_seq, eA_reg, eA_ret, eA_skip, eA_cond, eA_block, eA_exit, eCc_true, eCc_false, Kq_normal, Kq_ret, Kq_exit, Kb_normal, Kb_exit, Kb_ret, Kreg_eq, eI_nil, bindSt_some,
                bindSt_none, bindSt_ite, eR_eq, eGI_tt, eGI_ff, eGI_tf, eGI_ft, eop, vop, ev_t, ev_c, ev_f, Option.map, put_some, put_none, set_eq, setH_eq, get_eq, hp_eq,
                keep_cons, keep_nil, lk_cons, lk_nil, startSt, envOf, reduceIte, Nat.reduceEqDiff, Nat.reduceAdd, Nat.zero_add, Nat.add_zero, Nat.reduceMul, Nat.reduceLT,
                Nat.reduceLeDiff, bop, uop, intop, fltop, convop, true_or, or_true, Bool.false_eq_true, ret_ok, ret_normal, outV, rvV, rvs, ex_some, pureV, pureX, pureX.pure1',
                pure1, Bool.true_and, Bool.false_and, Bool.and_true, Bool.and_false, Option.isNone_none, AV.cells, AV.one, storable, laid, refless, refless1, List.all_cons,
                List.all_nil, List.length_cons, List.length_nil, List.getElem?_cons_zero, List.getElem?_cons_succ, List.set_cons_zero, List.set_cons_succ, List.set_nil,
                List.map_cons, List.map_nil, vload, loadC, storeC, vnil, vfaddr, vextract, callTo, List.mapM_cons, List.mapM_nil, Option.pure_def, Option.bind_eq_bind,
                Option.bind_some, tabOf_cons, flatT, flatE, flatC, and_self, and_true, true_and, implies_true, forall_const, not_true_eq_false, not_false_eq_true, false_implies,
                List.take_succ_cons, List.drop_succ_cons, List.take_zero, List.drop_zero, Bool.not_true, Bool.not_false, beq_self_eq_true, decide_true, decide_false, eq_self,
                Int.reduceEq, Int.reduceLE, Int.reduceLT, Bool.not_not, Bool.true_or, Bool.or_true, Bool.false_or, Bool.or_false, if_true, if_false, List.getElem?_nil, Kl_normal,
                Kl_exit, Kl_ret, fc105_0, fc105_1, fc105_2, fc105_3, fc105_4, fc105_5, fc105_6, fc105_7, fc105_8, fc105_9, fc105_10, fc105_11, fc105_12, fc105_13, fc105_14,
                fc105_15, fc105_16, fc105_17, fc105_18, fc105_19, fc105_20, fc105_21, fc105_22, fc105_23, fc105_24, fc105_25, cast_lit, toNat_lit, Int.reduceAdd, Int.reduceSub,
                Int.reduceMul, Int.reduceNeg, Int.reducePow, Nat.reducePow, Int.reduceToNat, Nat.reduceSub, Nat.mul_one, Int.toNat_zero, prod_eta, List.nil_append, List.cons_append,
                List.append_nil, Int.le_refl, Nat.le_refl, true_implies, take_all, vconv, vmm, vidxA, viaddrA, iaddr_sl, iaddr_lsl, getE, vfield, vlen, fillC, fillE, List.replicate,
                elemsOf, List.length_map, f2iK_eq, bits_i64, bits_i32, bits_u64, bits_u32, bits_u8, e_mov, g_mov, e_bin, g_bin, e_conv, g_conv, e_call, g_call, g_f32bits, dF32_map,
                dF64_map, dI64_map, dU8_map, dBool_map, dStr_map, decL, dF32, dF64, dI64, dU8, dBool, dStr]
      repeat' (first
        | ((first | (refine eGI_of (fun h => ?_) (fun h => ?_)) | (refine eCc_of (fun h => ?_) (fun h => ?_))) <;> (try simp only [Bool.not_eq_true', Bool.not_eq_false'] at h) <;> (try simp only [h, reduceCtorEq, Bool.not_eq_true', decide_eq_false_iff_not, Bool.not_true, Bool.not_false, Bool.false_or, Bool.true_or, Bool.true_and, Bool.false_and, Bool.and_eq_true, Bool.or_eq_true, if_true, if_false, reduceIte, Bool.false_eq_true, and_true, true_and, false_or, or_false, decide_eq_true_eq, not_false_eq_true, not_true_eq_false] at hp) <;> (try (have h2 := h; simp only [decide_eq_true_eq, decide_eq_false_iff_not] at h2; (first | (replace h2 := eq_false h2) | (replace h2 := eq_true h2)); simp only [h2, if_true, if_false, false_or, true_or, or_true, or_false, and_true, true_and, not_false_eq_true, not_true_eq_false] at hp)) <;> simp only [h,
          hp, eA_seq, eA_reg, eA_ret, eA_skip, eA_cond, eA_block, eA_exit, eCc_true, eCc_false, Kq_normal, Kq_ret, Kq_exit, Kb_normal, Kb_exit, Kb_ret, Kreg_eq, eI_nil, bindSt_some,
                bindSt_none, bindSt_ite, eR_eq, eGI_tt, eGI_ff, eGI_tf, eGI_ft, eop, vop, ev_t, ev_c, ev_f, Option.map, put_some, put_none, set_eq, setH_eq, get_eq, hp_eq,
                keep_cons, keep_nil, lk_cons, lk_nil, startSt, envOf, reduceIte, Nat.reduceEqDiff, Nat.reduceAdd, Nat.zero_add, Nat.add_zero, Nat.reduceMul, Nat.reduceLT,
                Nat.reduceLeDiff, bop, uop, intop, fltop, convop, true_or, or_true, Bool.false_eq_true, ret_ok, ret_normal, outV, rvV, rvs, ex_some, pureV, pureX, pureX.pure1',
                pure1, Bool.true_and, Bool.false_and, Bool.and_true, Bool.and_false, Option.isNone_none, AV.cells, AV.one, storable, laid, refless, refless1, List.all_cons,
                List.all_nil, List.length_cons, List.length_nil, List.getElem?_cons_zero, List.getElem?_cons_succ, List.set_cons_zero, List.set_cons_succ, List.set_nil,
                List.map_cons, List.map_nil, vload, loadC, storeC, vnil, vfaddr, vextract, callTo, List.mapM_cons, List.mapM_nil, Option.pure_def, Option.bind_eq_bind,
                Option.bind_some, tabOf_cons, flatT, flatE, flatC, and_self, and_true, true_and, implies_true, forall_const, not_true_eq_false, not_false_eq_true, false_implies,
                List.take_succ_cons, List.drop_succ_cons, List.take_zero, List.drop_zero, Bool.not_true, Bool.not_false, beq_self_eq_true, decide_true, decide_false, eq_self,
                Int.reduceEq, Int.reduceLE, Int.reduceLT, Bool.not_not, Bool.true_or, Bool.or_true, Bool.false_or, Bool.or_false, if_true, if_false, List.getElem?_nil, Kl_normal,
                Kl_exit, Kl_ret, fc105_0, fc105_1, fc105_2, fc105_3, fc105_4, fc105_5, fc105_6, fc105_7, fc105_8, fc105_9, fc105_10, fc105_11, fc105_12, fc105_13, fc105_14,
                fc105_15, fc105_16, fc105_17, fc105_18, fc105_19, fc105_20, fc105_21, fc105_22, fc105_23, fc105_24, fc105_25, cast_lit, toNat_lit, Int.reduceAdd, Int.reduceSub,
                Int.reduceMul, Int.reduceNeg, Int.reducePow, Nat.reducePow, Int.reduceToNat, Nat.reduceSub, Nat.mul_one, Int.toNat_zero, prod_eta, List.nil_append, List.cons_append,
                List.append_nil, Int.le_refl, Nat.le_refl, true_implies, take_all, vconv, vmm, vidxA, viaddrA, iaddr_sl, iaddr_lsl, getE, vfield, vlen, fillC, fillE, List.replicate,
                elemsOf, List.length_map, f2iK_eq, bits_i64, bits_i32, bits_u64, bits_u32, bits_u8, e_mov, g_mov, e_bin, g_bin, e_conv, g_conv, e_call, g_call, g_f32bits, dF32_map,
                dF64_map, dI64_map, dU8_map, dBool_map, dStr_map, decL, dF32, dF64, dI64, dU8, dBool, dStr]))
      all_goals (try simp only [*, m_spec_l01Bits, Bool.and_true, Bool.true_and, Bool.and_false, Bool.false_and, Bool.or_true, Bool.true_or, Bool.or_false, Bool.false_or, Bool.not_true, Bool.not_false, Bool.false_eq_true, if_true, if_false, reduceIte, decide_true, decide_false])
      all_goals (try (simp_all; done))
    · cases h
  · cases h
theorem s109 : ∀ vs r, g_f32from vs = some r → Says Try.prog 109 vs r := t_f32from Try.func109 (by kernel_rfl) rfl (by kernel_rfl) (by kernel_rfl)
def m_spec_l01From (x0 : Int) : Nat := (cn .f32 (Int.toNat (IntKind.wrap .u32 x0)))
def g_spec_l01From : List AV → Option AV
  | [.int .i64 y0] => some (.flt .f32 (m_spec_l01From y0))
  | _ => none
def ic104 : ICode := (.seq (.reg [⟨(some 2), none, (.mov (.c (.flt .f32 0)))⟩] [0]) (.seq (.reg [⟨(some 3), none, (.mov (.t 0))⟩, ⟨(some 4), none, (.conv (.int .u32) (.t 3))⟩,
      ⟨(some 5), none, (.call (.fn 109) [(.t 4)] [])⟩, ⟨(some 2), none, (.mov (.t 5))⟩] [2]) .ret))
def cp104 : CP := { n := 6, kp := [[0], [2]] }
theorem fc104_0 : IntKind.wrap .i64 (-1) = (-1) := by decide
theorem fc104_1 : IntKind.wrap .i64 0 = 0 := by decide
theorem fc104_2 : IntKind.wrap .i64 1 = 1 := by decide
theorem fc104_3 : IntKind.wrap .i64 10 = 10 := by decide
theorem fc104_4 : IntKind.wrap .i64 11 = 11 := by decide
theorem fc104_5 : IntKind.wrap .i64 110 = 110 := by decide
theorem fc104_6 : IntKind.wrap .i64 12 = 12 := by decide
theorem fc104_7 : IntKind.wrap .i64 13 = 13 := by decide
theorem fc104_8 : IntKind.wrap .i64 14 = 14 := by decide
theorem fc104_9 : IntKind.wrap .i64 15 = 15 := by decide
theorem fc104_10 : IntKind.wrap .i64 156 = 156 := by decide
theorem fc104_11 : IntKind.wrap .i64 16 = 16 := by decide
theorem fc104_12 : IntKind.wrap .i64 17 = 17 := by decide
theorem fc104_13 : IntKind.wrap .i64 2 = 2 := by decide
theorem fc104_14 : IntKind.wrap .i64 20 = 20 := by decide
theorem fc104_15 : IntKind.wrap .i64 210 = 210 := by decide
theorem fc104_16 : IntKind.wrap .i64 272 = 272 := by decide
theorem fc104_17 : IntKind.wrap .i64 3 = 3 := by decide
theorem fc104_18 : IntKind.wrap .i64 4 = 4 := by decide
theorem fc104_19 : IntKind.wrap .i64 42 = 42 := by decide
theorem fc104_20 : IntKind.wrap .i64 5 = 5 := by decide
theorem fc104_21 : IntKind.wrap .i64 6 = 6 := by decide
theorem fc104_22 : IntKind.wrap .i64 7 = 7 := by decide
theorem fc104_23 : IntKind.wrap .i64 72 = 72 := by decide
theorem fc104_24 : IntKind.wrap .i64 8 = 8 := by decide
theorem fc104_25 : IntKind.wrap .i64 9 = 9 := by decide
theorem s104 : ∀ vs r, g_spec_l01From vs = some r → Says Try.prog 104 vs r := by
  intro vs r h
  unfold g_spec_l01From at h
  split at h
  · rename_i y0
    cases h
    refine spec_of (tab := tabOf [(109, g_f32from)]) (cp := cp104) (ic := ic104) (rvl := [(.t 2)]) hm (tabOk_cons s109 tabOk_nil) Try.func104 rfl rfl rfl (by kernel_rfl) rfl (Nat.le_of_ble_eq_true rfl) ?_
    show eA _ _ _ _
    unfold ic104
    simp only [
        eA_seq, eA_reg, eA_ret, eA_skip, eA_cond, eA_block, eA_exit, eCc_true, eCc_false, Kq_normal, Kq_ret, Kq_exit, Kb_normal, Kb_exit, Kb_ret, Kreg_eq, eI_nil, bindSt_some,
              bindSt_none, bindSt_ite, eR_eq, eGI_tt, eGI_ff, eGI_tf, eGI_ft, eop, vop, ev_t, ev_c, ev_f, Option.map, put_some, put_none, set_eq, setH_eq, get_eq, hp_eq, keep_cons,
              keep_nil, lk_cons, lk_nil, startSt, envOf, reduceIte, Nat.reduceEqDiff, Nat.reduceAdd, Nat.zero_add, Nat.add_zero, Nat.reduceMul, Nat.reduceLT, Nat.reduceLeDiff, bop,
              uop, intop, fltop, convop, true_or, or_true, Bool.false_eq_true, ret_ok, ret_normal, outV, rvV, rvs, ex_some, pureV, pureX, pureX.pure1', pure1, Bool.true_and,
              Bool.false_and, Bool.and_true, Bool.and_false, Option.isNone_none, AV.cells, AV.one, storable, laid, refless, refless1, List.all_cons, List.all_nil, List.length_cons,
              List.length_nil, List.getElem?_cons_zero, List.getElem?_cons_succ, List.set_cons_zero, List.set_cons_succ, List.set_nil, List.map_cons, List.map_nil, vload, loadC,
              storeC, vnil, vfaddr, vextract, callTo, List.mapM_cons, List.mapM_nil, Option.pure_def, Option.bind_eq_bind, Option.bind_some, tabOf_cons, flatT, flatE, flatC,
              and_self, and_true, true_and, implies_true, forall_const, not_true_eq_false, not_false_eq_true, false_implies, List.take_succ_cons, List.drop_succ_cons,
              List.take_zero, List.drop_zero, Bool.not_true, Bool.not_false, beq_self_eq_true, decide_true, decide_false, eq_self, Int.reduceEq, Int.reduceLE, Int.reduceLT,
              Bool.not_not, Bool.true_or, Bool.or_true, Bool.false_or, Bool.or_false, if_true, if_false, List.getElem?_nil, Kl_normal, Kl_exit, Kl_ret, fc104_0, fc104_1, fc104_2,
              fc104_3, fc104_4, fc104_5, fc104_6, fc104_7, fc104_8, fc104_9, fc104_10, fc104_11, fc104_12, fc104_13, fc104_14, fc104_15, fc104_16, fc104_17, fc104_18, fc104_19,
              fc104_20, fc104_21, fc104_22, fc104_23, fc104_24, fc104_25, cast_lit, toNat_lit, Int.reduceAdd, Int.reduceSub, Int.reduceMul, Int.reduceNeg, Int.reducePow,
              Nat.reducePow, Int.reduceToNat, Nat.reduceSub, Nat.mul_one, Int.toNat_zero, prod_eta, List.nil_append, List.cons_append, List.append_nil, Int.le_refl, Nat.le_refl,
              true_implies, take_all, vconv, vmm, vidxA, viaddrA, iaddr_sl, iaddr_lsl, getE, vfield, vlen, fillC, fillE, List.replicate, elemsOf, List.length_map, f2iK_eq, bits_i64,
              bits_i32, bits_u64, bits_u32, bits_u8, e_mov, g_mov, e_conv, g_conv, e_call, g_call, g_f32from, dF32_map, dF64_map, dI64_map, dU8_map, dBool_map, dStr_map, decL, dF32,
              dF64, dI64, dU8, dBool, dStr]
    repeat' (first
      | ((first | (refine eGI_of (fun h => ?_) (fun h => ?_)) | (refine eCc_of (fun h => ?_) (fun h => ?_))) <;> (try simp only [Bool.not_eq_true', Bool.not_eq_false'] at h) <;> simp only [h,
        eA_seq, eA_reg, eA_ret, eA_skip, eA_cond, eA_block, eA_exit, eCc_true, eCc_false, Kq_normal, Kq_ret, Kq_exit, Kb_normal, Kb_exit, Kb_ret, Kreg_eq, eI_nil, bindSt_some,
              bindSt_none, bindSt_ite, eR_eq, eGI_tt, eGI_ff, eGI_tf, eGI_ft, eop, vop, ev_t, ev_c, ev_f, Option.map, put_some, put_none, set_eq, setH_eq, get_eq, hp_eq, keep_cons,
              keep_nil, lk_cons, lk_nil, startSt, envOf, reduceIte, Nat.reduceEqDiff, Nat.reduceAdd, Nat.zero_add, Nat.add_zero, Nat.reduceMul, Nat.reduceLT, Nat.reduceLeDiff, bop,
              uop, intop, fltop, convop, true_or, or_true, Bool.false_eq_true, ret_ok, ret_normal, outV, rvV, rvs, ex_some, pureV, pureX, pureX.pure1', pure1, Bool.true_and,
              Bool.false_and, Bool.and_true, Bool.and_false, Option.isNone_none, AV.cells, AV.one, storable, laid, refless, refless1, List.all_cons, List.all_nil, List.length_cons,
              List.length_nil, List.getElem?_cons_zero, List.getElem?_cons_succ, List.set_cons_zero, List.set_cons_succ, List.set_nil, List.map_cons, List.map_nil, vload, loadC,
              storeC, vnil, vfaddr, vextract, callTo, List.mapM_cons, List.mapM_nil, Option.pure_def, Option.bind_eq_bind, Option.bind_some, tabOf_cons, flatT, flatE, flatC,
              and_self, and_true, true_and, implies_true, forall_const, not_true_eq_false, not_false_eq_true, false_implies, List.take_succ_cons, List.drop_succ_cons,
              List.take_zero, List.drop_zero, Bool.not_true, Bool.not_false, beq_self_eq_true, decide_true, decide_false, eq_self, Int.reduceEq, Int.reduceLE, Int.reduceLT,
              Bool.not_not, Bool.true_or, Bool.or_true, Bool.false_or, Bool.or_false, if_true, if_false, List.getElem?_nil, Kl_normal, Kl_exit, Kl_ret, fc104_0, fc104_1, fc104_2,
              fc104_3, fc104_4, fc104_5, fc104_6, fc104_7, fc104_8, fc104_9, fc104_10, fc104_11, fc104_12, fc104_13, fc104_14, fc104_15, fc104_16, fc104_17, fc104_18, fc104_19,
              fc104_20, fc104_21, fc104_22, fc104_23, fc104_24, fc104_25, cast_lit, toNat_lit, Int.reduceAdd, Int.reduceSub, Int.reduceMul, Int.reduceNeg, Int.reducePow,
              Nat.reducePow, Int.reduceToNat, Nat.reduceSub, Nat.mul_one, Int.toNat_zero, prod_eta, List.nil_append, List.cons_append, List.append_nil, Int.le_refl, Nat.le_refl,
              true_implies, take_all, vconv, vmm, vidxA, viaddrA, iaddr_sl, iaddr_lsl, getE, vfield, vlen, fillC, fillE, List.replicate, elemsOf, List.length_map, f2iK_eq, bits_i64,
              bits_i32, bits_u64, bits_u32, bits_u8, e_mov, g_mov, e_conv, g_conv, e_call, g_call, g_f32from, dF32_map, dF64_map, dI64_map, dU8_map, dBool_map, dStr_map, decL, dF32,
              dF64, dI64, dU8, dBool, dStr]))
    all_goals (try simp only [*, m_spec_l01From, Bool.and_true, Bool.true_and, Bool.and_false, Bool.false_and, Bool.or_true, Bool.true_or, Bool.or_false, Bool.false_or, Bool.not_true, Bool.not_false, Bool.false_eq_true, if_true, if_false, reduceIte, decide_true, decide_false])
    all_goals (try (simp_all; done))
  · cases h
def m_spec_l02Size (x0 : Nat) : Nat := (m_spec_l01From (bitop .andNot .i64 (m_spec_l01Bits x0) 2147483648))
def p_spec_l02Size (x0 : Nat) : Bool := (p_spec_l01Bits x0)
def g_spec_l02Size : List AV → Option AV
  | [.flt .f32 y0] => if p_spec_l02Size y0 = true then some (.flt .f32 (m_spec_l02Size y0)) else none
  | _ => none
def ic99 : ICode := (.seq (.reg [⟨(some 2), none, (.mov (.c (.flt .f32 0)))⟩] [0]) (.seq (.reg [⟨(some 3), none, (.mov (.t 0))⟩, ⟨(some 4), none, (.call (.fn 105) [(.t 3)] [])⟩,
      ⟨(some 5), none, (.bin .andNot false (.t 4) (.c (.int .i64 2147483648)))⟩, ⟨(some 6), none, (.call (.fn 104) [(.t 5)] [])⟩, ⟨(some 2), none, (.mov (.t 6))⟩] [2]) .ret))
def cp99 : CP := { n := 7, kp := [[0], [2]] }
theorem fc99_0 : IntKind.wrap .i64 (-1) = (-1) := by decide
theorem fc99_1 : IntKind.wrap .i64 0 = 0 := by decide
theorem fc99_2 : IntKind.wrap .i64 1 = 1 := by decide
theorem fc99_3 : IntKind.wrap .i64 10 = 10 := by decide
theorem fc99_4 : IntKind.wrap .i64 11 = 11 := by decide
theorem fc99_5 : IntKind.wrap .i64 110 = 110 := by decide
theorem fc99_6 : IntKind.wrap .i64 12 = 12 := by decide
theorem fc99_7 : IntKind.wrap .i64 13 = 13 := by decide
theorem fc99_8 : IntKind.wrap .i64 14 = 14 := by decide
theorem fc99_9 : IntKind.wrap .i64 15 = 15 := by decide
theorem fc99_10 : IntKind.wrap .i64 156 = 156 := by decide
theorem fc99_11 : IntKind.wrap .i64 16 = 16 := by decide
theorem fc99_12 : IntKind.wrap .i64 17 = 17 := by decide
theorem fc99_13 : IntKind.wrap .i64 2 = 2 := by decide
theorem fc99_14 : IntKind.wrap .i64 20 = 20 := by decide
theorem fc99_15 : IntKind.wrap .i64 210 = 210 := by decide
theorem fc99_16 : IntKind.wrap .i64 272 = 272 := by decide
theorem fc99_17 : IntKind.wrap .i64 3 = 3 := by decide
theorem fc99_18 : IntKind.wrap .i64 4 = 4 := by decide
theorem fc99_19 : IntKind.wrap .i64 42 = 42 := by decide
theorem fc99_20 : IntKind.wrap .i64 5 = 5 := by decide
theorem fc99_21 : IntKind.wrap .i64 6 = 6 := by decide
theorem fc99_22 : IntKind.wrap .i64 7 = 7 := by decide
theorem fc99_23 : IntKind.wrap .i64 72 = 72 := by decide
theorem fc99_24 : IntKind.wrap .i64 8 = 8 := by decide
theorem fc99_25 : IntKind.wrap .i64 9 = 9 := by decide
theorem s99 : ∀ vs r, g_spec_l02Size vs = some r → Says Try.prog 99 vs r := by
  intro vs r h
  unfold g_spec_l02Size at h
  split at h
  · rename_i y0
    split at h
    · rename_i hp
      cases h
      refine spec_of (tab := tabOf [(104, g_spec_l01From), (105, g_spec_l01Bits)]) (cp := cp99) (ic := ic99) (rvl := [(.t 2)]) hm (tabOk_cons s104 (tabOk_cons s105 tabOk_nil)) Try.func99 rfl rfl rfl (by kernel_rfl) rfl (Nat.le_of_ble_eq_true rfl) ?_
      show eA _ _ _ _
      unfold ic99
      simp only [p_spec_l02Size, Bool.and_eq_true, Bool.or_eq_true, decide_eq_true_eq, Bool.not_eq_true', decide_eq_false_iff_not] at hp
      simp only [
          hp, eA_seq, eA_reg, eA_ret, eA_skip, eA_cond, eA_block, eA_exit, eCc_true, eCc_false, Kq_normal, Kq_ret, Kq_exit, Kb_normal, Kb_exit, Kb_ret, Kreg_eq, eI_nil, bindSt_some,
                bindSt_none, bindSt_ite, eR_eq, eGI_tt, eGI_ff, eGI_tf, eGI_ft, eop, vop, ev_t, ev_c, ev_f, Option.map, put_some, put_none, set_eq, setH_eq, get_eq, hp_eq,
                keep_cons, keep_nil, lk_cons, lk_nil, startSt, envOf, reduceIte, Nat.reduceEqDiff, Nat.reduceAdd, Nat.zero_add, Nat.add_zero, Nat.reduceMul, Nat.reduceLT,
                Nat.reduceLeDiff, bop, uop, intop, fltop, convop, true_or, or_true, Bool.false_eq_true, ret_ok, ret_normal, outV, rvV, rvs, ex_some, pureV, pureX, pureX.pure1',
                pure1, Bool.true_and, Bool.false_and, Bool.and_true, Bool.and_false, Option.isNone_none, AV.cells, AV.one, storable, laid, refless, refless1, List.all_cons,
                List.all_nil, List.length_cons, List.length_nil, List.getElem?_cons_zero, List.getElem?_cons_succ, List.set_cons_zero, List.set_cons_succ, List.set_nil,
                List.map_cons, List.map_nil, vload, loadC, storeC, vnil, vfaddr, vextract, callTo, List.mapM_cons, List.mapM_nil, Option.pure_def, Option.bind_eq_bind,
                Option.bind_some, tabOf_cons, flatT, flatE, flatC, and_self, and_true, true_and, implies_true, forall_const, not_true_eq_false, not_false_eq_true, false_implies,
                List.take_succ_cons, List.drop_succ_cons, List.take_zero, List.drop_zero, Bool.not_true, Bool.not_false, beq_self_eq_true, decide_true, decide_false, eq_self,
                Int.reduceEq, Int.reduceLE, Int.reduceLT, Bool.not_not, Bool.true_or, Bool.or_true, Bool.false_or, Bool.or_false, if_true, if_false, List.getElem?_nil, Kl_normal,
                Kl_exit, Kl_ret, fc99_0, fc99_1, fc99_2, fc99_3, fc99_4, fc99_5, fc99_6, fc99_7, fc99_8, fc99_9, fc99_10, fc99_11, fc99_12, fc99_13, fc99_14, fc99_15, fc99_16,
                fc99_17, fc99_18, fc99_19, fc99_20, fc99_21, fc99_22, fc99_23, fc99_24, fc99_25, cast_lit, toNat_lit, Int.reduceAdd, Int.reduceSub, Int.reduceMul, Int.reduceNeg,
                Int.reducePow, Nat.reducePow, Int.reduceToNat, Nat.reduceSub, Nat.mul_one, Int.toNat_zero, prod_eta, List.nil_append, List.cons_append, List.append_nil, Int.le_refl,
                Nat.le_refl, true_implies, take_all, vconv, vmm, vidxA, viaddrA, iaddr_sl, iaddr_lsl, getE, vfield, vlen, fillC, fillE, List.replicate, elemsOf, List.length_map,
                f2iK_eq, bits_i64, bits_i32, bits_u64, bits_u32, bits_u8, e_mov, g_mov, e_bin, g_bin, e_call, g_call, g_spec_l01From, g_spec_l01Bits, dF32_map, dF64_map, dI64_map,
                dU8_map, dBool_map, dStr_map, decL, dF32, dF64, dI64, dU8, dBool, dStr]
      repeat' (first
        | ((first | (refine eGI_of (fun h => ?_) (fun h => ?_)) | (refine eCc_of (fun h => ?_) (fun h => ?_))) <;> (try simp only [Bool.not_eq_true', Bool.not_eq_false'] at h) <;> (try simp only [h, reduceCtorEq, Bool.not_eq_true', decide_eq_false_iff_not, Bool.not_true, Bool.not_false, Bool.false_or, Bool.true_or, Bool.true_and, Bool.false_and, Bool.and_eq_true, Bool.or_eq_true, if_true, if_false, reduceIte, Bool.false_eq_true, and_true, true_and, false_or, or_false, decide_eq_true_eq, not_false_eq_true, not_true_eq_false] at hp) <;> (try (have h2 := h; simp only [decide_eq_true_eq, decide_eq_false_iff_not] at h2; (first | (replace h2 := eq_false h2) | (replace h2 := eq_true h2)); simp only [h2, if_true, if_false, false_or, true_or, or_true, or_false, and_true, true_and, not_false_eq_true, not_true_eq_false] at hp)) <;> simp only [h,
          hp, eA_seq, eA_reg, eA_ret, eA_skip, eA_cond, eA_block, eA_exit, eCc_true, eCc_false, Kq_normal, Kq_ret, Kq_exit, Kb_normal, Kb_exit, Kb_ret, Kreg_eq, eI_nil, bindSt_some,
                bindSt_none, bindSt_ite, eR_eq, eGI_tt, eGI_ff, eGI_tf, eGI_ft, eop, vop, ev_t, ev_c, ev_f, Option.map, put_some, put_none, set_eq, setH_eq, get_eq, hp_eq,
                keep_cons, keep_nil, lk_cons, lk_nil, startSt, envOf, reduceIte, Nat.reduceEqDiff, Nat.reduceAdd, Nat.zero_add, Nat.add_zero, Nat.reduceMul, Nat.reduceLT,
                Nat.reduceLeDiff, bop, uop, intop, fltop, convop, true_or, or_true, Bool.false_eq_true, ret_ok, ret_normal, outV, rvV, rvs, ex_some, pureV, pureX, pureX.pure1',
                pure1, Bool.true_and, Bool.false_and, Bool.and_true, Bool.and_false, Option.isNone_none, AV.cells, AV.one, storable, laid, refless, refless1, List.all_cons,
                List.all_nil, List.length_cons, List.length_nil, List.getElem?_cons_zero, List.getElem?_cons_succ, List.set_cons_zero, List.set_cons_succ, List.set_nil,
                List.map_cons, List.map_nil, vload, loadC, storeC, vnil, vfaddr, vextract, callTo, List.mapM_cons, List.mapM_nil, Option.pure_def, Option.bind_eq_bind,
                Option.bind_some, tabOf_cons, flatT, flatE, flatC, and_self, and_true, true_and, implies_true, forall_const, not_true_eq_false, not_false_eq_true, false_implies,
                List.take_succ_cons, List.drop_succ_cons, List.take_zero, List.drop_zero, Bool.not_true, Bool.not_false, beq_self_eq_true, decide_true, decide_false, eq_self,
                Int.reduceEq, Int.reduceLE, Int.reduceLT, Bool.not_not, Bool.true_or, Bool.or_true, Bool.false_or, Bool.or_false, if_true, if_false, List.getElem?_nil, Kl_normal,
                Kl_exit, Kl_ret, fc99_0, fc99_1, fc99_2, fc99_3, fc99_4, fc99_5, fc99_6, fc99_7, fc99_8, fc99_9, fc99_10, fc99_11, fc99_12, fc99_13, fc99_14, fc99_15, fc99_16,
                fc99_17, fc99_18, fc99_19, fc99_20, fc99_21, fc99_22, fc99_23, fc99_24, fc99_25, cast_lit, toNat_lit, Int.reduceAdd, Int.reduceSub, Int.reduceMul, Int.reduceNeg,
                Int.reducePow, Nat.reducePow, Int.reduceToNat, Nat.reduceSub, Nat.mul_one, Int.toNat_zero, prod_eta, List.nil_append, List.cons_append, List.append_nil, Int.le_refl,
                Nat.le_refl, true_implies, take_all, vconv, vmm, vidxA, viaddrA, iaddr_sl, iaddr_lsl, getE, vfield, vlen, fillC, fillE, List.replicate, elemsOf, List.length_map,
                f2iK_eq, bits_i64, bits_i32, bits_u64, bits_u32, bits_u8, e_mov, g_mov, e_bin, g_bin, e_call, g_call, g_spec_l01From, g_spec_l01Bits, dF32_map, dF64_map, dI64_map,
                dU8_map, dBool_map, dStr_map, decL, dF32, dF64, dI64, dU8, dBool, dStr]))
      all_goals (try simp only [*, m_spec_l02Size, Bool.and_true, Bool.true_and, Bool.and_false, Bool.false_and, Bool.or_true, Bool.true_or, Bool.or_false, Bool.false_or, Bool.not_true, Bool.not_false, Bool.false_eq_true, if_true, if_false, reduceIte, decide_true, decide_false])
      all_goals (try (simp_all; done))
    · cases h
  · cases h
theorem s92 : ∀ vs r, g_f64from vs = some r → Says Try.prog 92 vs r := t_f64from Try.func92 (by kernel_rfl) rfl (by kernel_rfl) (by kernel_rfl)
def m_math_NaN  : Nat := (cn .f64 (Int.toNat 9221120237041090561))
def g_math_NaN : List AV → Option AV
  | [] => some (.flt .f64 (m_math_NaN))
  | _ => none
def ic73 : ICode := (.seq (.reg [⟨(some 0), none, (.mov (.c (.flt .f64 0)))⟩] []) (.seq (.reg [⟨(some 1), none, (.call (.fn 92) [(.c (.int .u64 9221120237041090561))] [])⟩, ⟨(some
      0), none, (.mov (.t 1))⟩] [0]) .ret))
def cp73 : CP := { n := 2, kp := [[], [0]] }
theorem fc73_0 : IntKind.wrap .i64 (-1) = (-1) := by decide
theorem fc73_1 : IntKind.wrap .i64 0 = 0 := by decide
theorem fc73_2 : IntKind.wrap .i64 1 = 1 := by decide
theorem fc73_3 : IntKind.wrap .i64 10 = 10 := by decide
theorem fc73_4 : IntKind.wrap .i64 11 = 11 := by decide
theorem fc73_5 : IntKind.wrap .i64 110 = 110 := by decide
theorem fc73_6 : IntKind.wrap .i64 12 = 12 := by decide
theorem fc73_7 : IntKind.wrap .i64 13 = 13 := by decide
theorem fc73_8 : IntKind.wrap .i64 14 = 14 := by decide
theorem fc73_9 : IntKind.wrap .i64 15 = 15 := by decide
theorem fc73_10 : IntKind.wrap .i64 156 = 156 := by decide
theorem fc73_11 : IntKind.wrap .i64 16 = 16 := by decide
theorem fc73_12 : IntKind.wrap .i64 17 = 17 := by decide
theorem fc73_13 : IntKind.wrap .i64 2 = 2 := by decide
theorem fc73_14 : IntKind.wrap .i64 20 = 20 := by decide
theorem fc73_15 : IntKind.wrap .i64 210 = 210 := by decide
theorem fc73_16 : IntKind.wrap .i64 272 = 272 := by decide
theorem fc73_17 : IntKind.wrap .i64 3 = 3 := by decide
theorem fc73_18 : IntKind.wrap .i64 4 = 4 := by decide
theorem fc73_19 : IntKind.wrap .i64 42 = 42 := by decide
theorem fc73_20 : IntKind.wrap .i64 5 = 5 := by decide
theorem fc73_21 : IntKind.wrap .i64 6 = 6 := by decide
theorem fc73_22 : IntKind.wrap .i64 7 = 7 := by decide
theorem fc73_23 : IntKind.wrap .i64 72 = 72 := by decide
theorem fc73_24 : IntKind.wrap .i64 8 = 8 := by decide
theorem fc73_25 : IntKind.wrap .i64 9 = 9 := by decide
theorem s73 : ∀ vs r, g_math_NaN vs = some r → Says Try.prog 73 vs r := by
  intro vs r h
  unfold g_math_NaN at h
  split at h
  · cases h
    refine spec_of (tab := tabOf [(92, g_f64from)]) (cp := cp73) (ic := ic73) (rvl := [(.t 0)]) hm (tabOk_cons s92 tabOk_nil) Try.func73 rfl rfl rfl (by kernel_rfl) rfl (Nat.le_of_ble_eq_true rfl) ?_
    show eA _ _ _ _
    unfold ic73
    simp only [
        eA_seq, eA_reg, eA_ret, eA_skip, eA_cond, eA_block, eA_exit, eCc_true, eCc_false, Kq_normal, Kq_ret, Kq_exit, Kb_normal, Kb_exit, Kb_ret, Kreg_eq, eI_nil, bindSt_some,
              bindSt_none, bindSt_ite, eR_eq, eGI_tt, eGI_ff, eGI_tf, eGI_ft, eop, vop, ev_t, ev_c, ev_f, Option.map, put_some, put_none, set_eq, setH_eq, get_eq, hp_eq, keep_cons,
              keep_nil, lk_cons, lk_nil, startSt, envOf, reduceIte, Nat.reduceEqDiff, Nat.reduceAdd, Nat.zero_add, Nat.add_zero, Nat.reduceMul, Nat.reduceLT, Nat.reduceLeDiff, bop,
              uop, intop, fltop, convop, true_or, or_true, Bool.false_eq_true, ret_ok, ret_normal, outV, rvV, rvs, ex_some, pureV, pureX, pureX.pure1', pure1, Bool.true_and,
              Bool.false_and, Bool.and_true, Bool.and_false, Option.isNone_none, AV.cells, AV.one, storable, laid, refless, refless1, List.all_cons, List.all_nil, List.length_cons,
              List.length_nil, List.getElem?_cons_zero, List.getElem?_cons_succ, List.set_cons_zero, List.set_cons_succ, List.set_nil, List.map_cons, List.map_nil, vload, loadC,
              storeC, vnil, vfaddr, vextract, callTo, List.mapM_cons, List.mapM_nil, Option.pure_def, Option.bind_eq_bind, Option.bind_some, tabOf_cons, flatT, flatE, flatC,
              and_self, and_true, true_and, implies_true, forall_const, not_true_eq_false, not_false_eq_true, false_implies, List.take_succ_cons, List.drop_succ_cons,
              List.take_zero, List.drop_zero, Bool.not_true, Bool.not_false, beq_self_eq_true, decide_true, decide_false, eq_self, Int.reduceEq, Int.reduceLE, Int.reduceLT,
              Bool.not_not, Bool.true_or, Bool.or_true, Bool.false_or, Bool.or_false, if_true, if_false, List.getElem?_nil, Kl_normal, Kl_exit, Kl_ret, fc73_0, fc73_1, fc73_2,
              fc73_3, fc73_4, fc73_5, fc73_6, fc73_7, fc73_8, fc73_9, fc73_10, fc73_11, fc73_12, fc73_13, fc73_14, fc73_15, fc73_16, fc73_17, fc73_18, fc73_19, fc73_20, fc73_21,
              fc73_22, fc73_23, fc73_24, fc73_25, cast_lit, toNat_lit, Int.reduceAdd, Int.reduceSub, Int.reduceMul, Int.reduceNeg, Int.reducePow, Nat.reducePow, Int.reduceToNat,
              Nat.reduceSub, Nat.mul_one, Int.toNat_zero, prod_eta, List.nil_append, List.cons_append, List.append_nil, Int.le_refl, Nat.le_refl, true_implies, take_all, vconv, vmm,
              vidxA, viaddrA, iaddr_sl, iaddr_lsl, getE, vfield, vlen, fillC, fillE, List.replicate, elemsOf, List.length_map, f2iK_eq, bits_i64, bits_i32, bits_u64, bits_u32,
              bits_u8, e_mov, g_mov, e_call, g_call, g_f64from, dF32_map, dF64_map, dI64_map, dU8_map, dBool_map, dStr_map, decL, dF32, dF64, dI64, dU8, dBool, dStr]
    repeat' (first
      | ((first | (refine eGI_of (fun h => ?_) (fun h => ?_)) | (refine eCc_of (fun h => ?_) (fun h => ?_))) <;> (try simp only [Bool.not_eq_true', Bool.not_eq_false'] at h) <;> simp only [h,
        eA_seq, eA_reg, eA_ret, eA_skip, eA_cond, eA_block, eA_exit, eCc_true, eCc_false, Kq_normal, Kq_ret, Kq_exit, Kb_normal, Kb_exit, Kb_ret, Kreg_eq, eI_nil, bindSt_some,
              bindSt_none, bindSt_ite, eR_eq, eGI_tt, eGI_ff, eGI_tf, eGI_ft, eop, vop, ev_t, ev_c, ev_f, Option.map, put_some, put_none, set_eq, setH_eq, get_eq, hp_eq, keep_cons,
              keep_nil, lk_cons, lk_nil, startSt, envOf, reduceIte, Nat.reduceEqDiff, Nat.reduceAdd, Nat.zero_add, Nat.add_zero, Nat.reduceMul, Nat.reduceLT, Nat.reduceLeDiff, bop,
              uop, intop, fltop, convop, true_or, or_true, Bool.false_eq_true, ret_ok, ret_normal, outV, rvV, rvs, ex_some, pureV, pureX, pureX.pure1', pure1, Bool.true_and,
              Bool.false_and, Bool.and_true, Bool.and_false, Option.isNone_none, AV.cells, AV.one, storable, laid, refless, refless1, List.all_cons, List.all_nil, List.length_cons,
              List.length_nil, List.getElem?_cons_zero, List.getElem?_cons_succ, List.set_cons_zero, List.set_cons_succ, List.set_nil, List.map_cons, List.map_nil, vload, loadC,
              storeC, vnil, vfaddr, vextract, callTo, List.mapM_cons, List.mapM_nil, Option.pure_def, Option.bind_eq_bind, Option.bind_some, tabOf_cons, flatT, flatE, flatC,
              and_self, and_true, true_and, implies_true, forall_const, not_true_eq_false, not_false_eq_true, false_implies, List.take_succ_cons, List.drop_succ_cons,
              List.take_zero, List.drop_zero, Bool.not_true, Bool.not_false, beq_self_eq_true, decide_true, decide_false, eq_self, Int.reduceEq, Int.reduceLE, Int.reduceLT,
              Bool.not_not, Bool.true_or, Bool.or_true, Bool.false_or, Bool.or_false, if_true, if_false, List.getElem?_nil, Kl_normal, Kl_exit, Kl_ret, fc73_0, fc73_1, fc73_2,
              fc73_3, fc73_4, fc73_5, fc73_6, fc73_7, fc73_8, fc73_9, fc73_10, fc73_11, fc73_12, fc73_13, fc73_14, fc73_15, fc73_16, fc73_17, fc73_18, fc73_19, fc73_20, fc73_21,
              fc73_22, fc73_23, fc73_24, fc73_25, cast_lit, toNat_lit, Int.reduceAdd, Int.reduceSub, Int.reduceMul, Int.reduceNeg, Int.reducePow, Nat.reducePow, Int.reduceToNat,
              Nat.reduceSub, Nat.mul_one, Int.toNat_zero, prod_eta, List.nil_append, List.cons_append, List.append_nil, Int.le_refl, Nat.le_refl, true_implies, take_all, vconv, vmm,
              vidxA, viaddrA, iaddr_sl, iaddr_lsl, getE, vfield, vlen, fillC, fillE, List.replicate, elemsOf, List.length_map, f2iK_eq, bits_i64, bits_i32, bits_u64, bits_u32,
              bits_u8, e_mov, g_mov, e_call, g_call, g_f64from, dF32_map, dF64_map, dI64_map, dU8_map, dBool_map, dStr_map, decL, dF32, dF64, dI64, dU8, dBool, dStr]))
    all_goals (try simp only [*, m_math_NaN, Bool.and_true, Bool.true_and, Bool.and_false, Bool.false_and, Bool.or_true, Bool.true_or, Bool.or_false, Bool.false_or, Bool.not_true, Bool.not_false, Bool.false_eq_true, if_true, if_false, reduceIte, decide_true, decide_false])
    all_goals (try (simp_all; done))
  · cases h
theorem s93 : ∀ vs r, g_f64bits vs = some r → Says Try.prog 93 vs r := t_f64bits Try.func93 (by kernel_rfl) rfl (by kernel_rfl) (by kernel_rfl)
def ic71 : ICode := (.seq (.reg [⟨(some 2), none, (.mov (.c (.flt .f64 0)))⟩] [0]) (.seq (.reg [⟨(some 3), none, (.mov (.t 0))⟩, ⟨(some 4), none, (.call (.fn 93) [(.t 3)] [])⟩,
      ⟨(some 5), none, (.bin .andNot false (.t 4) (.c (.int .u64 9223372036854775808)))⟩, ⟨(some 6), none, (.call (.fn 92) [(.t 5)] [])⟩, ⟨(some 2), none, (.mov (.t 6))⟩] [2])
      .ret))
def cp71 : CP := { n := 7, kp := [[0], [2]] }
theorem s71 : ∀ vs r, g_abs vs = some r → Says Try.prog 71 vs r := by
  intro vs r h
  unfold g_abs at h
  split at h
  · rename_i c
    cases h
    refine says_raw1 fun b hb => ?_
    have hlt : b < 2 ^ 64 := hb.lt
    rw [fabs_fv hb]
    refine spec_of (tab := tabOf [(92, g_f64from), (93, g_f64bits)]) (cp := cp71) (ic := ic71) (rvl := [(.t 2)]) hm (tabOk_cons s92 (tabOk_cons s93 tabOk_nil)) Try.func71 rfl rfl rfl (by kernel_rfl) rfl (Nat.le_of_ble_eq_true rfl) ?_
    show eA _ _ _ _
    unfold ic71
    simp only [
      if_pos hlt, eA_seq, eA_reg, eA_ret, eA_skip, eA_cond, eA_block, eA_exit, eCc_true, eCc_false, Kq_normal, Kq_ret, Kq_exit, Kb_normal, Kb_exit, Kb_ret, Kreg_eq, eI_nil,
            bindSt_some, bindSt_none, bindSt_ite, eR_eq, eGI_tt, eGI_ff, eGI_tf, eGI_ft, eop, vop, ev_t, ev_c, ev_f, Option.map, put_some, put_none, set_eq, setH_eq, get_eq, hp_eq,
            keep_cons, keep_nil, lk_cons, lk_nil, startSt, envOf, reduceIte, Nat.reduceEqDiff, Nat.reduceAdd, Nat.zero_add, Nat.add_zero, Nat.reduceMul, Nat.reduceLT,
            Nat.reduceLeDiff, bop, uop, intop, fltop, convop, true_or, or_true, Bool.false_eq_true, ret_ok, ret_normal, outV, rvV, rvs, ex_some, pureV, pureX, pureX.pure1', pure1,
            Bool.true_and, Bool.false_and, Bool.and_true, Bool.and_false, Option.isNone_none, AV.cells, AV.one, storable, laid, refless, refless1, List.all_cons, List.all_nil,
            List.length_cons, List.length_nil, List.getElem?_cons_zero, List.getElem?_cons_succ, List.set_cons_zero, List.set_cons_succ, List.set_nil, List.map_cons, List.map_nil,
            vload, loadC, storeC, vnil, vfaddr, vextract, callTo, List.mapM_cons, List.mapM_nil, Option.pure_def, Option.bind_eq_bind, Option.bind_some, tabOf_cons, flatT, flatE,
            flatC, and_self, and_true, true_and, implies_true, forall_const, not_true_eq_false, not_false_eq_true, false_implies, List.take_succ_cons, List.drop_succ_cons,
            List.take_zero, List.drop_zero, Bool.not_true, Bool.not_false, beq_self_eq_true, decide_true, decide_false, eq_self, Int.reduceEq, Int.reduceLE, Int.reduceLT,
            Bool.not_not, Bool.true_or, Bool.or_true, Bool.false_or, Bool.or_false, if_true, if_false, List.getElem?_nil, e_mov, g_mov, e_bin, g_bin, e_call, g_call, g_f64bits,
            g_f64from]
  · cases h
def v_spec_l01AngleWide_0 (x0 : Nat) (x1 : Nat) : Nat := (fmul .f64 (if (flt .f64 (fabs x1) (fabs x0)) = true then (fdiv .f64 (fabs x1) (fabs x0)) else (fdiv .f64 (fabs x0) (fabs
      x1))) (if (flt .f64 (fabs x1) (fabs x0)) = true then (fdiv .f64 (fabs x1) (fabs x0)) else (fdiv .f64 (fabs x0) (fabs x1))))
def v_spec_l01AngleWide_1 (x0 : Nat) (x1 : Nat) : Nat := (fdiv .f64 (if (flt .f64 (fabs x1) (fabs x0)) = true then (fdiv .f64 (fabs x1) (fabs x0)) else (fdiv .f64 (fabs x0) (fabs
      x1))) (fadd .f64 4607182418800017408 (m_math_Sqrt (fadd .f64 4607182418800017408 (v_spec_l01AngleWide_0 x0 x1)))))
def v_spec_l01AngleWide_2 (x0 : Nat) (x1 : Nat) : Nat := (fdiv .f64 (v_spec_l01AngleWide_1 x0 x1) (fadd .f64 4607182418800017408 (m_math_Sqrt (fadd .f64 4607182418800017408 (fmul
      .f64 (v_spec_l01AngleWide_1 x0 x1) (v_spec_l01AngleWide_1 x0 x1))))))
def v_spec_l01AngleWide_3 (x0 : Nat) (x1 : Nat) : Nat := (fdiv .f64 (v_spec_l01AngleWide_2 x0 x1) (fadd .f64 4607182418800017408 (m_math_Sqrt (fadd .f64 4607182418800017408 (fmul
      .f64 (v_spec_l01AngleWide_2 x0 x1) (v_spec_l01AngleWide_2 x0 x1))))))
def v_spec_l01AngleWide_4 (x0 : Nat) (x1 : Nat) : Nat := (fmul .f64 (fmul .f64 (v_spec_l01AngleWide_3 x0 x1) (v_spec_l01AngleWide_3 x0 x1)) (fsub .f64 (fdiv .f64 4607182418800017408
      (ofInt .f64 15)) (fmul .f64 (fmul .f64 (v_spec_l01AngleWide_3 x0 x1) (v_spec_l01AngleWide_3 x0 x1)) 0)))
def v_spec_l01AngleWide_5 (x0 : Nat) (x1 : Nat) : Nat := (fmul .f64 (fmul .f64 (v_spec_l01AngleWide_3 x0 x1) (v_spec_l01AngleWide_3 x0 x1)) (fsub .f64 (fdiv .f64 4607182418800017408
      (ofInt .f64 13)) (v_spec_l01AngleWide_4 x0 x1)))
def v_spec_l01AngleWide_6 (x0 : Nat) (x1 : Nat) : Nat := (fmul .f64 (fmul .f64 (v_spec_l01AngleWide_3 x0 x1) (v_spec_l01AngleWide_3 x0 x1)) (fsub .f64 (fdiv .f64 4607182418800017408
      (ofInt .f64 11)) (v_spec_l01AngleWide_5 x0 x1)))
def v_spec_l01AngleWide_7 (x0 : Nat) (x1 : Nat) : Nat := (fmul .f64 (fmul .f64 (v_spec_l01AngleWide_3 x0 x1) (v_spec_l01AngleWide_3 x0 x1)) (fsub .f64 (fdiv .f64 4607182418800017408
      (ofInt .f64 9)) (v_spec_l01AngleWide_6 x0 x1)))
def v_spec_l01AngleWide_8 (x0 : Nat) (x1 : Nat) : Nat := (fmul .f64 (fmul .f64 (v_spec_l01AngleWide_3 x0 x1) (v_spec_l01AngleWide_3 x0 x1)) (fsub .f64 (fdiv .f64 4607182418800017408
      (ofInt .f64 7)) (v_spec_l01AngleWide_7 x0 x1)))
def v_spec_l01AngleWide_9 (x0 : Nat) (x1 : Nat) : Nat := (fmul .f64 (fmul .f64 (v_spec_l01AngleWide_3 x0 x1) (v_spec_l01AngleWide_3 x0 x1)) (fsub .f64 (fdiv .f64 4607182418800017408
      (ofInt .f64 5)) (v_spec_l01AngleWide_8 x0 x1)))
def v_spec_l01AngleWide_10 (x0 : Nat) (x1 : Nat) : Nat := (fmul .f64 (fmul .f64 (v_spec_l01AngleWide_3 x0 x1) (v_spec_l01AngleWide_3 x0 x1)) (fsub .f64 (fdiv .f64
      4607182418800017408 (ofInt .f64 3)) (v_spec_l01AngleWide_9 x0 x1)))
def v_spec_l01AngleWide_11 (x0 : Nat) (x1 : Nat) : Nat := (fmul .f64 4620693217682128896 (fmul .f64 (v_spec_l01AngleWide_3 x0 x1) (fsub .f64 (fdiv .f64 4607182418800017408 (ofInt
      .f64 1)) (v_spec_l01AngleWide_10 x0 x1))))
def v_spec_l01AngleWide_12 (x0 : Nat) (x1 : Nat) : Nat := (if (flt .f64 (fabs x1) (fabs x0)) = true then (fsub .f64 4598175219545276416 (fdiv .f64 (v_spec_l01AngleWide_11 x0 x1)
      4618760256179416344)) else (fdiv .f64 (v_spec_l01AngleWide_11 x0 x1) 4618760256179416344))
def m_spec_l01AngleWide (x0 : Nat) (x1 : Nat) : Nat := (if (feq .f64 (fsub .f64 x0 x0) 0) = true then (if (feq .f64 (fsub .f64 x1 x1) 0) = true then (if (feq .f64 x1 0) = true then
      (if (feq .f64 x0 0) = true then 0 else (if (flt .f64 x0 0) = true then (fneg .f64 (if (flt .f64 x1 0) = true then (fsub .f64 4602678819172646912 (v_spec_l01AngleWide_12 x0
      x1)) else (v_spec_l01AngleWide_12 x0 x1))) else (if (flt .f64 x1 0) = true then (fsub .f64 4602678819172646912 (v_spec_l01AngleWide_12 x0 x1)) else (v_spec_l01AngleWide_12 x0
      x1)))) else (if (flt .f64 x0 0) = true then (fneg .f64 (if (flt .f64 x1 0) = true then (fsub .f64 4602678819172646912 (v_spec_l01AngleWide_12 x0 x1)) else
      (v_spec_l01AngleWide_12 x0 x1))) else (if (flt .f64 x1 0) = true then (fsub .f64 4602678819172646912 (v_spec_l01AngleWide_12 x0 x1)) else (v_spec_l01AngleWide_12 x0 x1))))
      else (m_math_NaN)) else (m_math_NaN))
def g_spec_l01AngleWide : List AV → Option AV
  | [.flt .f64 y0, .flt .f64 y1] => some (.flt .f64 (m_spec_l01AngleWide y0 y1))
  | _ => none
def ic62 : ICode := (.seq (.reg [⟨(some 4), none, (.mov (.c (.flt .f64 0)))⟩] [0, 1]) (.seq (.seq (.reg [⟨(some 14), none, (.mov (.t 0))⟩, ⟨(some 15), none, (.mov (.t 0))⟩, ⟨(some
      16), none, (.bin .sub false (.t 14) (.t 15))⟩, ⟨(some 17), none, (.bin .neq false (.t 16) (.c (.flt .f64 0)))⟩, ⟨(some 18), none, (.mov (.t 17))⟩, ⟨(some 19), (some (18,
      false)), (.mov (.t 1))⟩, ⟨(some 20), (some (18, false)), (.mov (.t 1))⟩, ⟨(some 21), (some (18, false)), (.bin .sub false (.t 19) (.t 20))⟩, ⟨(some 22), (some (18, false)),
      (.bin .neq false (.t 21) (.c (.flt .f64 0)))⟩, ⟨(some 23), none, (.pick (.t 18) (.c (.bool true)) (.t 22))⟩] [0, 1, 23]) (.cond (.t 23) (.seq (.reg [⟨(some 24), none, (.call
      (.fn 73) [] [])⟩, ⟨(some 4), none, (.mov (.t 24))⟩] [4]) .ret) .skip)) (.seq (.seq (.reg [⟨(some 25), none, (.mov (.t 1))⟩, ⟨(some 26), none, (.bin .eql false (.t 25) (.c
      (.flt .f64 0)))⟩, ⟨(some 27), none, (.mov (.t 26))⟩, ⟨(some 28), (some (27, true)), (.mov (.t 0))⟩, ⟨(some 29), (some (27, true)), (.bin .eql false (.t 28) (.c (.flt .f64
      0)))⟩, ⟨(some 30), none, (.pick (.t 27) (.t 29) (.c (.bool false)))⟩] [0, 1, 30]) (.cond (.t 30) (.seq (.reg [⟨(some 4), none, (.mov (.c (.flt .f64 0)))⟩] [4]) .ret) .skip))
      (.seq (.reg [⟨(some 31), none, (.mov (.t 0))⟩, ⟨(some 32), none, (.call (.fn 71) [(.t 31)] [])⟩, ⟨(some 5), none, (.mov (.t 32))⟩] [0, 1, 5]) (.seq (.reg [⟨(some 33), none,
      (.mov (.t 1))⟩, ⟨(some 34), none, (.call (.fn 71) [(.t 33)] [])⟩, ⟨(some 6), none, (.mov (.t 34))⟩] [0, 1, 5, 6]) (.seq (.reg [⟨(some 35), none, (.mov (.t 5))⟩, ⟨(some 36),
      none, (.mov (.t 6))⟩, ⟨(some 37), none, (.bin .gtr false (.t 35) (.t 36))⟩, ⟨(some 7), none, (.mov (.t 37))⟩] [0, 1, 5, 6, 7]) (.seq (.reg [⟨(some 8), none, (.mov (.c (.flt
      .f64 0)))⟩] [0, 1, 5, 6, 7]) (.seq (.seq (.reg [⟨(some 38), none, (.mov (.t 7))⟩] [0, 1, 5, 6, 7, 38]) (.cond (.t 38) (.reg [⟨(some 39), none, (.mov (.t 6))⟩, ⟨(some 40),
      none, (.mov (.t 5))⟩, ⟨(some 41), none, (.bin .quo false (.t 39) (.t 40))⟩, ⟨(some 8), none, (.mov (.t 41))⟩] [0, 1, 7, 8]) (.reg [⟨(some 42), none, (.mov (.t 5))⟩, ⟨(some
      43), none, (.mov (.t 6))⟩, ⟨(some 44), none, (.bin .quo false (.t 42) (.t 43))⟩, ⟨(some 8), none, (.mov (.t 44))⟩] [0, 1, 7, 8]))) (.seq (.seq (.reg [⟨(some 9), none, (.mov
      (.c (.int .i64 0)))⟩] [0, 1, 7, 8, 9]) (.block 0 (.loop (.seq (.seq (.reg [⟨(some 45), none, (.mov (.t 9))⟩, ⟨(some 46), none, (.bin .lss false (.t 45) (.c (.int .i64 3)))⟩]
      [0, 1, 7, 8, 9, 46]) (.cond (.t 46) .skip (.exit 0))) (.seq (.block 1 (.reg [⟨(some 49), none, (.mov (.t 8))⟩, ⟨(some 50), none, (.mov (.t 8))⟩, ⟨(some 51), none, (.mov (.t
      8))⟩, ⟨(some 52), none, (.bin .mul false (.t 50) (.t 51))⟩, ⟨(some 53), none, (.bin .add false (.c (.flt .f64 4607182418800017408)) (.t 52))⟩, ⟨(some 54), none, (.call (.fn
      53) [(.t 53)] [])⟩, ⟨(some 55), none, (.bin .add false (.c (.flt .f64 4607182418800017408)) (.t 54))⟩, ⟨(some 56), none, (.bin .quo false (.t 49) (.t 55))⟩, ⟨(some 8), none,
      (.mov (.t 56))⟩] [0, 1, 7, 8, 9])) (.reg [⟨(some 47), none, (.mov (.t 9))⟩, ⟨(some 48), none, (.bin .add false (.t 47) (.c (.int .i64 1)))⟩, ⟨(some 9), none, (.mov (.t 48))⟩]
      [0, 1, 7, 8, 9])))))) (.seq (.reg [⟨(some 57), none, (.mov (.t 8))⟩, ⟨(some 58), none, (.mov (.t 8))⟩, ⟨(some 59), none, (.bin .mul false (.t 57) (.t 58))⟩, ⟨(some 10), none,
      (.mov (.t 59))⟩] [0, 1, 7, 8, 10]) (.seq (.reg [⟨(some 11), none, (.mov (.c (.flt .f64 0)))⟩] [0, 1, 7, 8, 10, 11]) (.seq (.seq (.reg [⟨(some 12), none, (.mov (.c (.int .i64
      15)))⟩] [0, 1, 7, 8, 10, 11, 12]) (.block 2 (.loop (.seq (.seq (.reg [⟨(some 60), none, (.mov (.t 12))⟩, ⟨(some 61), none, (.bin .geq false (.t 60) (.c (.int .i64 1)))⟩] [0,
      1, 7, 8, 10, 11, 12, 61]) (.cond (.t 61) .skip (.exit 2))) (.seq (.block 3 (.reg [⟨(some 64), none, (.mov (.t 12))⟩, ⟨(some 65), none, (.conv (.flt .f64) (.t 64))⟩, ⟨(some
      66), none, (.bin .quo false (.c (.flt .f64 4607182418800017408)) (.t 65))⟩, ⟨(some 67), none, (.mov (.t 10))⟩, ⟨(some 68), none, (.mov (.t 11))⟩, ⟨(some 69), none, (.bin .mul
      false (.t 67) (.t 68))⟩, ⟨(some 70), none, (.bin .sub false (.t 66) (.t 69))⟩, ⟨(some 11), none, (.mov (.t 70))⟩] [0, 1, 7, 8, 10, 11, 12])) (.reg [⟨(some 62), none, (.mov (.t
      12))⟩, ⟨(some 63), none, (.bin .sub false (.t 62) (.c (.int .i64 2)))⟩, ⟨(some 12), none, (.mov (.t 63))⟩] [0, 1, 7, 8, 10, 11, 12])))))) (.seq (.reg [⟨(some 71), none, (.mov
      (.t 8))⟩, ⟨(some 72), none, (.mov (.t 11))⟩, ⟨(some 73), none, (.bin .mul false (.t 71) (.t 72))⟩, ⟨(some 74), none, (.bin .mul false (.c (.flt .f64 4620693217682128896)) (.t
      73))⟩, ⟨(some 75), none, (.bin .quo false (.t 74) (.c (.flt .f64 4618760256179416344)))⟩, ⟨(some 13), none, (.mov (.t 75))⟩] [0, 1, 7, 13]) (.seq (.seq (.reg [⟨(some 76),
      none, (.mov (.t 7))⟩] [0, 1, 13, 76]) (.cond (.t 76) (.reg [⟨(some 77), none, (.mov (.t 13))⟩, ⟨(some 78), none, (.bin .sub false (.c (.flt .f64 4598175219545276416)) (.t
      77))⟩, ⟨(some 13), none, (.mov (.t 78))⟩] [0, 1, 13]) .skip)) (.seq (.seq (.reg [⟨(some 79), none, (.mov (.t 1))⟩, ⟨(some 80), none, (.bin .lss false (.t 79) (.c (.flt .f64
      0)))⟩] [0, 13, 80]) (.cond (.t 80) (.reg [⟨(some 81), none, (.mov (.t 13))⟩, ⟨(some 82), none, (.bin .sub false (.c (.flt .f64 4602678819172646912)) (.t 81))⟩, ⟨(some 13),
      none, (.mov (.t 82))⟩] [0, 13]) .skip)) (.seq (.seq (.reg [⟨(some 83), none, (.mov (.t 0))⟩, ⟨(some 84), none, (.bin .lss false (.t 83) (.c (.flt .f64 0)))⟩] [13, 84]) (.cond
      (.t 84) (.seq (.reg [⟨(some 85), none, (.mov (.t 13))⟩, ⟨(some 86), none, (.un .neg (.t 85))⟩, ⟨(some 4), none, (.mov (.t 86))⟩] [4]) .ret) .skip)) (.seq (.reg [⟨(some 87),
      none, (.mov (.t 13))⟩, ⟨(some 4), none, (.mov (.t 87))⟩] [4]) .ret)))))))))))))))))
def cp62 : CP := { n := 88, kp := [[0, 1], [0, 1, 23], [4], [0, 1, 30], [4], [0, 1, 5], [0, 1, 5, 6], [0, 1, 5, 6, 7], [0, 1, 5, 6, 7], [0, 1, 5, 6, 7, 38], [0, 1, 7, 8], [0, 1, 7,
      8], [0, 1, 7, 8, 9], [0, 1, 7, 8, 9, 46], [0, 1, 7, 8, 9], [0, 1, 7, 8, 9], [0, 1, 7, 8, 10], [0, 1, 7, 8, 10, 11], [0, 1, 7, 8, 10, 11, 12], [0, 1, 7, 8, 10, 11, 12, 61], [0,
      1, 7, 8, 10, 11, 12], [0, 1, 7, 8, 10, 11, 12], [0, 1, 7, 13], [0, 1, 13, 76], [0, 1, 13], [0, 13, 80], [0, 13], [13, 84], [4], [4]] }
theorem fc62_0 : IntKind.wrap .i64 (-1) = (-1) := by decide
theorem fc62_1 : IntKind.wrap .i64 0 = 0 := by decide
theorem fc62_2 : IntKind.wrap .i64 1 = 1 := by decide
theorem fc62_3 : IntKind.wrap .i64 10 = 10 := by decide
theorem fc62_4 : IntKind.wrap .i64 11 = 11 := by decide
theorem fc62_5 : IntKind.wrap .i64 110 = 110 := by decide
theorem fc62_6 : IntKind.wrap .i64 12 = 12 := by decide
theorem fc62_7 : IntKind.wrap .i64 13 = 13 := by decide
theorem fc62_8 : IntKind.wrap .i64 14 = 14 := by decide
theorem fc62_9 : IntKind.wrap .i64 15 = 15 := by decide
theorem fc62_10 : IntKind.wrap .i64 156 = 156 := by decide
theorem fc62_11 : IntKind.wrap .i64 16 = 16 := by decide
theorem fc62_12 : IntKind.wrap .i64 17 = 17 := by decide
theorem fc62_13 : IntKind.wrap .i64 2 = 2 := by decide
theorem fc62_14 : IntKind.wrap .i64 20 = 20 := by decide
theorem fc62_15 : IntKind.wrap .i64 210 = 210 := by decide
theorem fc62_16 : IntKind.wrap .i64 272 = 272 := by decide
theorem fc62_17 : IntKind.wrap .i64 3 = 3 := by decide
theorem fc62_18 : IntKind.wrap .i64 4 = 4 := by decide
theorem fc62_19 : IntKind.wrap .i64 42 = 42 := by decide
theorem fc62_20 : IntKind.wrap .i64 5 = 5 := by decide
theorem fc62_21 : IntKind.wrap .i64 6 = 6 := by decide
theorem fc62_22 : IntKind.wrap .i64 7 = 7 := by decide
theorem fc62_23 : IntKind.wrap .i64 72 = 72 := by decide
theorem fc62_24 : IntKind.wrap .i64 8 = 8 := by decide
theorem fc62_25 : IntKind.wrap .i64 9 = 9 := by decide
theorem s62 : ∀ vs r, g_spec_l01AngleWide vs = some r → Says Try.prog 62 vs r := by
  intro vs r h
  unfold g_spec_l01AngleWide at h
  split at h
  · rename_i y0 y1
    cases h
    refine spec_of (tab := tabOf [(53, g_math_Sqrt), (71, g_abs), (73, g_math_NaN)]) (cp := cp62) (ic := ic62) (rvl := [(.t 4)]) hm (tabOk_cons s53 (tabOk_cons s71 (tabOk_cons s73 tabOk_nil))) Try.func62 rfl rfl rfl (by kernel_rfl) rfl (Nat.le_of_ble_eq_true rfl) ?_
    show eA _ _ _ _
    unfold ic62
    simp only [
        eA_seq, eA_reg, eA_ret, eA_skip, eA_cond, eA_block, eA_exit, eCc_true, eCc_false, Kq_normal, Kq_ret, Kq_exit, Kb_normal, Kb_exit, Kb_ret, Kreg_eq, eI_nil, bindSt_some,
              bindSt_none, bindSt_ite, eR_eq, eGI_tt, eGI_ff, eGI_tf, eGI_ft, eop, vop, ev_t, ev_c, ev_f, Option.map, put_some, put_none, set_eq, setH_eq, get_eq, hp_eq, keep_cons,
              keep_nil, lk_cons, lk_nil, startSt, envOf, reduceIte, Nat.reduceEqDiff, Nat.reduceAdd, Nat.zero_add, Nat.add_zero, Nat.reduceMul, Nat.reduceLT, Nat.reduceLeDiff, bop,
              uop, intop, fltop, convop, true_or, or_true, Bool.false_eq_true, ret_ok, ret_normal, outV, rvV, rvs, ex_some, pureV, pureX, pureX.pure1', pure1, Bool.true_and,
              Bool.false_and, Bool.and_true, Bool.and_false, Option.isNone_none, AV.cells, AV.one, storable, laid, refless, refless1, List.all_cons, List.all_nil, List.length_cons,
              List.length_nil, List.getElem?_cons_zero, List.getElem?_cons_succ, List.set_cons_zero, List.set_cons_succ, List.set_nil, List.map_cons, List.map_nil, vload, loadC,
              storeC, vnil, vfaddr, vextract, callTo, List.mapM_cons, List.mapM_nil, Option.pure_def, Option.bind_eq_bind, Option.bind_some, tabOf_cons, flatT, flatE, flatC,
              and_self, and_true, true_and, implies_true, forall_const, not_true_eq_false, not_false_eq_true, false_implies, List.take_succ_cons, List.drop_succ_cons,
              List.take_zero, List.drop_zero, Bool.not_true, Bool.not_false, beq_self_eq_true, decide_true, decide_false, eq_self, Int.reduceEq, Int.reduceLE, Int.reduceLT,
              Bool.not_not, Bool.true_or, Bool.or_true, Bool.false_or, Bool.or_false, if_true, if_false, List.getElem?_nil, Kl_normal, Kl_exit, Kl_ret, fc62_0, fc62_1, fc62_2,
              fc62_3, fc62_4, fc62_5, fc62_6, fc62_7, fc62_8, fc62_9, fc62_10, fc62_11, fc62_12, fc62_13, fc62_14, fc62_15, fc62_16, fc62_17, fc62_18, fc62_19, fc62_20, fc62_21,
              fc62_22, fc62_23, fc62_24, fc62_25, cast_lit, toNat_lit, Int.reduceAdd, Int.reduceSub, Int.reduceMul, Int.reduceNeg, Int.reducePow, Nat.reducePow, Int.reduceToNat,
              Nat.reduceSub, Nat.mul_one, Int.toNat_zero, prod_eta, List.nil_append, List.cons_append, List.append_nil, Int.le_refl, Nat.le_refl, true_implies, take_all, vconv, vmm,
              vidxA, viaddrA, iaddr_sl, iaddr_lsl, getE, vfield, vlen, fillC, fillE, List.replicate, elemsOf, List.length_map, f2iK_eq, bits_i64, bits_i32, bits_u64, bits_u32,
              bits_u8, e_mov, g_mov, e_pick, g_pick, e_bin, g_bin, e_un, g_un, e_conv, g_conv, e_call, g_call, g_math_Sqrt, g_abs, g_math_NaN, dF32_map, dF64_map, dI64_map, dU8_map,
              dBool_map, dStr_map, decL, dF32, dF64, dI64, dU8, dBool, dStr, ↓b_pick, ePk_true, ePk_false]
    repeat' (first
      | ((first | (refine eGI_of (fun h => ?_) (fun h => ?_)) | (refine eCc_of (fun h => ?_) (fun h => ?_)) | (refine ePk_of (fun h => ?_) (fun h => ?_)) | (have h := True.intro; refine KW_refl ?_) | (have h := True.intro; refine eA_loop ?_)) <;> (try simp only [Bool.not_eq_true', Bool.not_eq_false'] at h) <;> simp only [h,
        eA_seq, eA_reg, eA_ret, eA_skip, eA_cond, eA_block, eA_exit, eCc_true, eCc_false, Kq_normal, Kq_ret, Kq_exit, Kb_normal, Kb_exit, Kb_ret, Kreg_eq, eI_nil, bindSt_some,
              bindSt_none, bindSt_ite, eR_eq, eGI_tt, eGI_ff, eGI_tf, eGI_ft, eop, vop, ev_t, ev_c, ev_f, Option.map, put_some, put_none, set_eq, setH_eq, get_eq, hp_eq, keep_cons,
              keep_nil, lk_cons, lk_nil, startSt, envOf, reduceIte, Nat.reduceEqDiff, Nat.reduceAdd, Nat.zero_add, Nat.add_zero, Nat.reduceMul, Nat.reduceLT, Nat.reduceLeDiff, bop,
              uop, intop, fltop, convop, true_or, or_true, Bool.false_eq_true, ret_ok, ret_normal, outV, rvV, rvs, ex_some, pureV, pureX, pureX.pure1', pure1, Bool.true_and,
              Bool.false_and, Bool.and_true, Bool.and_false, Option.isNone_none, AV.cells, AV.one, storable, laid, refless, refless1, List.all_cons, List.all_nil, List.length_cons,
              List.length_nil, List.getElem?_cons_zero, List.getElem?_cons_succ, List.set_cons_zero, List.set_cons_succ, List.set_nil, List.map_cons, List.map_nil, vload, loadC,
              storeC, vnil, vfaddr, vextract, callTo, List.mapM_cons, List.mapM_nil, Option.pure_def, Option.bind_eq_bind, Option.bind_some, tabOf_cons, flatT, flatE, flatC,
              and_self, and_true, true_and, implies_true, forall_const, not_true_eq_false, not_false_eq_true, false_implies, List.take_succ_cons, List.drop_succ_cons,
              List.take_zero, List.drop_zero, Bool.not_true, Bool.not_false, beq_self_eq_true, decide_true, decide_false, eq_self, Int.reduceEq, Int.reduceLE, Int.reduceLT,
              Bool.not_not, Bool.true_or, Bool.or_true, Bool.false_or, Bool.or_false, if_true, if_false, List.getElem?_nil, Kl_normal, Kl_exit, Kl_ret, fc62_0, fc62_1, fc62_2,
              fc62_3, fc62_4, fc62_5, fc62_6, fc62_7, fc62_8, fc62_9, fc62_10, fc62_11, fc62_12, fc62_13, fc62_14, fc62_15, fc62_16, fc62_17, fc62_18, fc62_19, fc62_20, fc62_21,
              fc62_22, fc62_23, fc62_24, fc62_25, cast_lit, toNat_lit, Int.reduceAdd, Int.reduceSub, Int.reduceMul, Int.reduceNeg, Int.reducePow, Nat.reducePow, Int.reduceToNat,
              Nat.reduceSub, Nat.mul_one, Int.toNat_zero, prod_eta, List.nil_append, List.cons_append, List.append_nil, Int.le_refl, Nat.le_refl, true_implies, take_all, vconv, vmm,
              vidxA, viaddrA, iaddr_sl, iaddr_lsl, getE, vfield, vlen, fillC, fillE, List.replicate, elemsOf, List.length_map, f2iK_eq, bits_i64, bits_i32, bits_u64, bits_u32,
              bits_u8, e_mov, g_mov, e_pick, g_pick, e_bin, g_bin, e_un, g_un, e_conv, g_conv, e_call, g_call, g_math_Sqrt, g_abs, g_math_NaN, dF32_map, dF64_map, dI64_map, dU8_map,
              dBool_map, dStr_map, decL, dF32, dF64, dI64, dU8, dBool, dStr, ↓b_pick, ePk_true, ePk_false]))
    all_goals (try simp only [*, m_spec_l01AngleWide, v_spec_l01AngleWide_0, v_spec_l01AngleWide_1, v_spec_l01AngleWide_2, v_spec_l01AngleWide_3, v_spec_l01AngleWide_4, v_spec_l01AngleWide_5, v_spec_l01AngleWide_6, v_spec_l01AngleWide_7, v_spec_l01AngleWide_8, v_spec_l01AngleWide_9, v_spec_l01AngleWide_10, v_spec_l01AngleWide_11, v_spec_l01AngleWide_12, Bool.and_true, Bool.true_and, Bool.and_false, Bool.false_and, Bool.or_true, Bool.true_or, Bool.or_false, Bool.false_or, Bool.not_true, Bool.not_false, Bool.false_eq_true, if_true, if_false, reduceIte, decide_true, decide_false])
    all_goals (try (simp_all; done))
  · cases h
def m_spec_l01Angle (x0 : Nat) (x1 : Nat) : Nat := (m_spec_l01Narrow (m_spec_l01AngleWide (widen x0) (widen x1)))
def p_spec_l01Angle (x0 : Nat) (x1 : Nat) : Bool := (p_spec_l01Narrow (m_spec_l01AngleWide (widen x0) (widen x1)))
def g_spec_l01Angle : List AV → Option AV
  | [.flt .f32 y0, .flt .f32 y1] => if p_spec_l01Angle y0 y1 = true then some (.flt .f32 (m_spec_l01Angle y0 y1)) else none
  | _ => none
def ic75 : ICode := (.seq (.reg [⟨(some 4), none, (.mov (.c (.flt .f32 0)))⟩] [0, 1]) (.seq (.reg [⟨(some 5), none, (.mov (.t 0))⟩, ⟨(some 6), none, (.conv (.flt .f64) (.t 5))⟩,
      ⟨(some 7), none, (.mov (.t 1))⟩, ⟨(some 8), none, (.conv (.flt .f64) (.t 7))⟩, ⟨(some 9), none, (.call (.fn 62) [(.t 6), (.t 8)] [])⟩, ⟨(some 10), none, (.call (.fn 61) [(.t
      9)] [])⟩, ⟨(some 4), none, (.mov (.t 10))⟩] [4]) .ret))
def cp75 : CP := { n := 11, kp := [[0, 1], [4]] }
theorem fc75_0 : IntKind.wrap .i64 (-1) = (-1) := by decide
theorem fc75_1 : IntKind.wrap .i64 0 = 0 := by decide
theorem fc75_2 : IntKind.wrap .i64 1 = 1 := by decide
theorem fc75_3 : IntKind.wrap .i64 10 = 10 := by decide
theorem fc75_4 : IntKind.wrap .i64 11 = 11 := by decide
theorem fc75_5 : IntKind.wrap .i64 110 = 110 := by decide
theorem fc75_6 : IntKind.wrap .i64 12 = 12 := by decide
theorem fc75_7 : IntKind.wrap .i64 13 = 13 := by decide
theorem fc75_8 : IntKind.wrap .i64 14 = 14 := by decide
theorem fc75_9 : IntKind.wrap .i64 15 = 15 := by decide
theorem fc75_10 : IntKind.wrap .i64 156 = 156 := by decide
theorem fc75_11 : IntKind.wrap .i64 16 = 16 := by decide
theorem fc75_12 : IntKind.wrap .i64 17 = 17 := by decide
theorem fc75_13 : IntKind.wrap .i64 2 = 2 := by decide
theorem fc75_14 : IntKind.wrap .i64 20 = 20 := by decide
theorem fc75_15 : IntKind.wrap .i64 210 = 210 := by decide
theorem fc75_16 : IntKind.wrap .i64 272 = 272 := by decide
theorem fc75_17 : IntKind.wrap .i64 3 = 3 := by decide
theorem fc75_18 : IntKind.wrap .i64 4 = 4 := by decide
theorem fc75_19 : IntKind.wrap .i64 42 = 42 := by decide
theorem fc75_20 : IntKind.wrap .i64 5 = 5 := by decide
theorem fc75_21 : IntKind.wrap .i64 6 = 6 := by decide
theorem fc75_22 : IntKind.wrap .i64 7 = 7 := by decide
theorem fc75_23 : IntKind.wrap .i64 72 = 72 := by decide
theorem fc75_24 : IntKind.wrap .i64 8 = 8 := by decide
theorem fc75_25 : IntKind.wrap .i64 9 = 9 := by decide
theorem s75 : ∀ vs r, g_spec_l01Angle vs = some r → Says Try.prog 75 vs r := by
  intro vs r h
  unfold g_spec_l01Angle at h
  split at h
  · rename_i y0 y1
    split at h
    · rename_i hp
      cases h
      refine spec_of (tab := tabOf [(61, g_spec_l01Narrow), (62, g_spec_l01AngleWide)]) (cp := cp75) (ic := ic75) (rvl := [(.t 4)]) hm (tabOk_cons s61 (tabOk_cons s62 tabOk_nil)) Try.func75 rfl rfl rfl (by kernel_rfl) rfl (Nat.le_of_ble_eq_true rfl) ?_
      show eA _ _ _ _
      unfold ic75
      simp only [p_spec_l01Angle, Bool.and_eq_true, Bool.or_eq_true, decide_eq_true_eq, Bool.not_eq_true', decide_eq_false_iff_not] at hp
      simp only [
          hp, eA_seq, eA_reg, eA_ret, eA_skip, eA_cond, eA_block, eA_exit, eCc_true, eCc_false, Kq_normal, Kq_ret, Kq_exit, Kb_normal, Kb_exit, Kb_ret, Kreg_eq, eI_nil, bindSt_some,
                bindSt_none, bindSt_ite, eR_eq, eGI_tt, eGI_ff, eGI_tf, eGI_ft, eop, vop, ev_t, ev_c, ev_f, Option.map, put_some, put_none, set_eq, setH_eq, get_eq, hp_eq,
                keep_cons, keep_nil, lk_cons, lk_nil, startSt, envOf, reduceIte, Nat.reduceEqDiff, Nat.reduceAdd, Nat.zero_add, Nat.add_zero, Nat.reduceMul, Nat.reduceLT,
                Nat.reduceLeDiff, bop, uop, intop, fltop, convop, true_or, or_true, Bool.false_eq_true, ret_ok, ret_normal, outV, rvV, rvs, ex_some, pureV, pureX, pureX.pure1',
                pure1, Bool.true_and, Bool.false_and, Bool.and_true, Bool.and_false, Option.isNone_none, AV.cells, AV.one, storable, laid, refless, refless1, List.all_cons,
                List.all_nil, List.length_cons, List.length_nil, List.getElem?_cons_zero, List.getElem?_cons_succ, List.set_cons_zero, List.set_cons_succ, List.set_nil,
                List.map_cons, List.map_nil, vload, loadC, storeC, vnil, vfaddr, vextract, callTo, List.mapM_cons, List.mapM_nil, Option.pure_def, Option.bind_eq_bind,
                Option.bind_some, tabOf_cons, flatT, flatE, flatC, and_self, and_true, true_and, implies_true, forall_const, not_true_eq_false, not_false_eq_true, false_implies,
                List.take_succ_cons, List.drop_succ_cons, List.take_zero, List.drop_zero, Bool.not_true, Bool.not_false, beq_self_eq_true, decide_true, decide_false, eq_self,
                Int.reduceEq, Int.reduceLE, Int.reduceLT, Bool.not_not, Bool.true_or, Bool.or_true, Bool.false_or, Bool.or_false, if_true, if_false, List.getElem?_nil, Kl_normal,
                Kl_exit, Kl_ret, fc75_0, fc75_1, fc75_2, fc75_3, fc75_4, fc75_5, fc75_6, fc75_7, fc75_8, fc75_9, fc75_10, fc75_11, fc75_12, fc75_13, fc75_14, fc75_15, fc75_16,
                fc75_17, fc75_18, fc75_19, fc75_20, fc75_21, fc75_22, fc75_23, fc75_24, fc75_25, cast_lit, toNat_lit, Int.reduceAdd, Int.reduceSub, Int.reduceMul, Int.reduceNeg,
                Int.reducePow, Nat.reducePow, Int.reduceToNat, Nat.reduceSub, Nat.mul_one, Int.toNat_zero, prod_eta, List.nil_append, List.cons_append, List.append_nil, Int.le_refl,
                Nat.le_refl, true_implies, take_all, vconv, vmm, vidxA, viaddrA, iaddr_sl, iaddr_lsl, getE, vfield, vlen, fillC, fillE, List.replicate, elemsOf, List.length_map,
                f2iK_eq, bits_i64, bits_i32, bits_u64, bits_u32, bits_u8, e_mov, g_mov, e_conv, g_conv, e_call, g_call, g_spec_l01Narrow, g_spec_l01AngleWide, dF32_map, dF64_map,
                dI64_map, dU8_map, dBool_map, dStr_map, decL, dF32, dF64, dI64, dU8, dBool, dStr]
      repeat' (first
        | ((first | (refine eGI_of (fun h => ?_) (fun h => ?_)) | (refine eCc_of (fun h => ?_) (fun h => ?_))) <;> (try simp only [Bool.not_eq_true', Bool.not_eq_false'] at h) <;> (try simp only [h, reduceCtorEq, Bool.not_eq_true', decide_eq_false_iff_not, Bool.not_true, Bool.not_false, Bool.false_or, Bool.true_or, Bool.true_and, Bool.false_and, Bool.and_eq_true, Bool.or_eq_true, if_true, if_false, reduceIte, Bool.false_eq_true, and_true, true_and, false_or, or_false, decide_eq_true_eq, not_false_eq_true, not_true_eq_false] at hp) <;> (try (have h2 := h; simp only [decide_eq_true_eq, decide_eq_false_iff_not] at h2; (first | (replace h2 := eq_false h2) | (replace h2 := eq_true h2)); simp only [h2, if_true, if_false, false_or, true_or, or_true, or_false, and_true, true_and, not_false_eq_true, not_true_eq_false] at hp)) <;> simp only [h,
          hp, eA_seq, eA_reg, eA_ret, eA_skip, eA_cond, eA_block, eA_exit, eCc_true, eCc_false, Kq_normal, Kq_ret, Kq_exit, Kb_normal, Kb_exit, Kb_ret, Kreg_eq, eI_nil, bindSt_some,
                bindSt_none, bindSt_ite, eR_eq, eGI_tt, eGI_ff, eGI_tf, eGI_ft, eop, vop, ev_t, ev_c, ev_f, Option.map, put_some, put_none, set_eq, setH_eq, get_eq, hp_eq,
                keep_cons, keep_nil, lk_cons, lk_nil, startSt, envOf, reduceIte, Nat.reduceEqDiff, Nat.reduceAdd, Nat.zero_add, Nat.add_zero, Nat.reduceMul, Nat.reduceLT,
                Nat.reduceLeDiff, bop, uop, intop, fltop, convop, true_or, or_true, Bool.false_eq_true, ret_ok, ret_normal, outV, rvV, rvs, ex_some, pureV, pureX, pureX.pure1',
                pure1, Bool.true_and, Bool.false_and, Bool.and_true, Bool.and_false, Option.isNone_none, AV.cells, AV.one, storable, laid, refless, refless1, List.all_cons,
                List.all_nil, List.length_cons, List.length_nil, List.getElem?_cons_zero, List.getElem?_cons_succ, List.set_cons_zero, List.set_cons_succ, List.set_nil,
                List.map_cons, List.map_nil, vload, loadC, storeC, vnil, vfaddr, vextract, callTo, List.mapM_cons, List.mapM_nil, Option.pure_def, Option.bind_eq_bind,
                Option.bind_some, tabOf_cons, flatT, flatE, flatC, and_self, and_true, true_and, implies_true, forall_const, not_true_eq_false, not_false_eq_true, false_implies,
                List.take_succ_cons, List.drop_succ_cons, List.take_zero, List.drop_zero, Bool.not_true, Bool.not_false, beq_self_eq_true, decide_true, decide_false, eq_self,
                Int.reduceEq, Int.reduceLE, Int.reduceLT, Bool.not_not, Bool.true_or, Bool.or_true, Bool.false_or, Bool.or_false, if_true, if_false, List.getElem?_nil, Kl_normal,
                Kl_exit, Kl_ret, fc75_0, fc75_1, fc75_2, fc75_3, fc75_4, fc75_5, fc75_6, fc75_7, fc75_8, fc75_9, fc75_10, fc75_11, fc75_12, fc75_13, fc75_14, fc75_15, fc75_16,
                fc75_17, fc75_18, fc75_19, fc75_20, fc75_21, fc75_22, fc75_23, fc75_24, fc75_25, cast_lit, toNat_lit, Int.reduceAdd, Int.reduceSub, Int.reduceMul, Int.reduceNeg,
                Int.reducePow, Nat.reducePow, Int.reduceToNat, Nat.reduceSub, Nat.mul_one, Int.toNat_zero, prod_eta, List.nil_append, List.cons_append, List.append_nil, Int.le_refl,
                Nat.le_refl, true_implies, take_all, vconv, vmm, vidxA, viaddrA, iaddr_sl, iaddr_lsl, getE, vfield, vlen, fillC, fillE, List.replicate, elemsOf, List.length_map,
                f2iK_eq, bits_i64, bits_i32, bits_u64, bits_u32, bits_u8, e_mov, g_mov, e_conv, g_conv, e_call, g_call, g_spec_l01Narrow, g_spec_l01AngleWide, dF32_map, dF64_map,
                dI64_map, dU8_map, dBool_map, dStr_map, decL, dF32, dF64, dI64, dU8, dBool, dStr]))
      all_goals (try simp only [*, m_spec_l01Angle, Bool.and_true, Bool.true_and, Bool.and_false, Bool.false_and, Bool.or_true, Bool.true_or, Bool.or_false, Bool.false_or, Bool.not_true, Bool.not_false, Bool.false_eq_true, if_true, if_false, reduceIte, decide_true, decide_false])
      all_goals (try (simp_all; done))
    · cases h
  · cases h
def m_spec_l02Angle (x0 : (Nat × Nat × Nat × Nat)) : Nat := (fmul .f32 1073741824 (m_spec_l01Angle (m_spec_l01Long (m_spec_l02Axis x0)) (m_spec_l02Size x0.1)))
def p_spec_l02Angle (x0 : (Nat × Nat × Nat × Nat)) : Bool := ((p_spec_l01Long (m_spec_l02Axis x0)) && ((p_spec_l02Size x0.1) && (p_spec_l01Angle (m_spec_l01Long (m_spec_l02Axis x0))
      (m_spec_l02Size x0.1))))
def g_spec_l02Angle : List AV → Option AV
  | [.agg [.flt .f32 y0, .flt .f32 y1, .flt .f32 y2, .flt .f32 y3]] => if p_spec_l02Angle (y0, y1, y2, y3) = true then some (.flt .f32
      (m_spec_l02Angle (y0, y1, y2, y3))) else none
  | _ => none
def ic84 : ICode := (.seq (.reg [⟨(some 1), none, (.box 4 (.t 0))⟩, ⟨(some 2), none, (.mov (.c (.flt .f32 0)))⟩] [1]) (.seq (.reg [⟨(some 3), none, (.load (some 4) (.t 1))⟩, ⟨(some
      4), none, (.call (.fn 76) [(.t 3)] [])⟩, ⟨(some 5), none, (.call (.fn 35) [(.t 4)] [])⟩, ⟨(some 6), none, (.faddr 0 (.t 1))⟩, ⟨(some 7), none, (.load none (.t 6))⟩, ⟨(some 8),
      none, (.call (.fn 99) [(.t 7)] [])⟩, ⟨(some 9), none, (.call (.fn 75) [(.t 5), (.t 8)] [])⟩, ⟨(some 10), none, (.bin .mul false (.c (.flt .f32 1073741824)) (.t 9))⟩, ⟨(some
      2), none, (.mov (.t 10))⟩] [2]) .ret))
def cp84 : CP := { n := 11, kp := [[1], [2]] }
theorem fc84_0 : IntKind.wrap .i64 (-1) = (-1) := by decide
theorem fc84_1 : IntKind.wrap .i64 0 = 0 := by decide
theorem fc84_2 : IntKind.wrap .i64 1 = 1 := by decide
theorem fc84_3 : IntKind.wrap .i64 10 = 10 := by decide
theorem fc84_4 : IntKind.wrap .i64 11 = 11 := by decide
theorem fc84_5 : IntKind.wrap .i64 110 = 110 := by decide
theorem fc84_6 : IntKind.wrap .i64 12 = 12 := by decide
theorem fc84_7 : IntKind.wrap .i64 13 = 13 := by decide
theorem fc84_8 : IntKind.wrap .i64 14 = 14 := by decide
theorem fc84_9 : IntKind.wrap .i64 15 = 15 := by decide
theorem fc84_10 : IntKind.wrap .i64 156 = 156 := by decide
theorem fc84_11 : IntKind.wrap .i64 16 = 16 := by decide
theorem fc84_12 : IntKind.wrap .i64 17 = 17 := by decide
theorem fc84_13 : IntKind.wrap .i64 2 = 2 := by decide
theorem fc84_14 : IntKind.wrap .i64 20 = 20 := by decide
theorem fc84_15 : IntKind.wrap .i64 210 = 210 := by decide
theorem fc84_16 : IntKind.wrap .i64 272 = 272 := by decide
theorem fc84_17 : IntKind.wrap .i64 3 = 3 := by decide
theorem fc84_18 : IntKind.wrap .i64 4 = 4 := by decide
theorem fc84_19 : IntKind.wrap .i64 42 = 42 := by decide
theorem fc84_20 : IntKind.wrap .i64 5 = 5 := by decide
theorem fc84_21 : IntKind.wrap .i64 6 = 6 := by decide
theorem fc84_22 : IntKind.wrap .i64 7 = 7 := by decide
theorem fc84_23 : IntKind.wrap .i64 72 = 72 := by decide
theorem fc84_24 : IntKind.wrap .i64 8 = 8 := by decide
theorem fc84_25 : IntKind.wrap .i64 9 = 9 := by decide
theorem s84 : ∀ vs r, g_spec_l02Angle vs = some r → Says Try.prog 84 vs r := by
  intro vs r h
  unfold g_spec_l02Angle at h
  split at h
  · rename_i y0 y1 y2 y3
    split at h
    · rename_i hp
      cases h
      refine spec_of (tab := tabOf [(35, g_spec_l01Long), (75, g_spec_l01Angle), (76, g_spec_l02Axis), (99, g_spec_l02Size)]) (cp := cp84) (ic := ic84) (rvl := [(.t 2)]) hm (tabOk_cons s35 (tabOk_cons s75 (tabOk_cons s76 (tabOk_cons s99 tabOk_nil)))) Try.func84 rfl rfl rfl (by kernel_rfl) rfl (Nat.le_of_ble_eq_true rfl) ?_
      show eA _ _ _ _
      unfold ic84
      simp only [p_spec_l02Angle, Bool.and_eq_true, Bool.or_eq_true, decide_eq_true_eq, Bool.not_eq_true', decide_eq_false_iff_not] at hp
      simp only [
          hp, eA_seq, eA_reg, eA_ret, eA_skip, eA_cond, eA_block, eA_exit, eCc_true, eCc_false, Kq_normal, Kq_ret, Kq_exit, Kb_normal, Kb_exit, Kb_ret, Kreg_eq, eI_nil, bindSt_some,
                bindSt_none, bindSt_ite, eR_eq, eGI_tt, eGI_ff, eGI_tf, eGI_ft, eop, vop, ev_t, ev_c, ev_f, Option.map, put_some, put_none, set_eq, setH_eq, get_eq, hp_eq,
                keep_cons, keep_nil, lk_cons, lk_nil, startSt, envOf, reduceIte, Nat.reduceEqDiff, Nat.reduceAdd, Nat.zero_add, Nat.add_zero, Nat.reduceMul, Nat.reduceLT,
                Nat.reduceLeDiff, bop, uop, intop, fltop, convop, true_or, or_true, Bool.false_eq_true, ret_ok, ret_normal, outV, rvV, rvs, ex_some, pureV, pureX, pureX.pure1',
                pure1, Bool.true_and, Bool.false_and, Bool.and_true, Bool.and_false, Option.isNone_none, AV.cells, AV.one, storable, laid, refless, refless1, List.all_cons,
                List.all_nil, List.length_cons, List.length_nil, List.getElem?_cons_zero, List.getElem?_cons_succ, List.set_cons_zero, List.set_cons_succ, List.set_nil,
                List.map_cons, List.map_nil, vload, loadC, storeC, vnil, vfaddr, vextract, callTo, List.mapM_cons, List.mapM_nil, Option.pure_def, Option.bind_eq_bind,
                Option.bind_some, tabOf_cons, flatT, flatE, flatC, and_self, and_true, true_and, implies_true, forall_const, not_true_eq_false, not_false_eq_true, false_implies,
                List.take_succ_cons, List.drop_succ_cons, List.take_zero, List.drop_zero, Bool.not_true, Bool.not_false, beq_self_eq_true, decide_true, decide_false, eq_self,
                Int.reduceEq, Int.reduceLE, Int.reduceLT, Bool.not_not, Bool.true_or, Bool.or_true, Bool.false_or, Bool.or_false, if_true, if_false, List.getElem?_nil, Kl_normal,
                Kl_exit, Kl_ret, fc84_0, fc84_1, fc84_2, fc84_3, fc84_4, fc84_5, fc84_6, fc84_7, fc84_8, fc84_9, fc84_10, fc84_11, fc84_12, fc84_13, fc84_14, fc84_15, fc84_16,
                fc84_17, fc84_18, fc84_19, fc84_20, fc84_21, fc84_22, fc84_23, fc84_24, fc84_25, cast_lit, toNat_lit, Int.reduceAdd, Int.reduceSub, Int.reduceMul, Int.reduceNeg,
                Int.reducePow, Nat.reducePow, Int.reduceToNat, Nat.reduceSub, Nat.mul_one, Int.toNat_zero, prod_eta, List.nil_append, List.cons_append, List.append_nil, Int.le_refl,
                Nat.le_refl, true_implies, take_all, vconv, vmm, vidxA, viaddrA, iaddr_sl, iaddr_lsl, getE, vfield, vlen, fillC, fillE, List.replicate, elemsOf, List.length_map,
                f2iK_eq, bits_i64, bits_i32, bits_u64, bits_u32, bits_u8, e_mov, g_mov, e_box, g_box, e_load, g_load, e_bin, g_bin, e_faddr, g_faddr, e_call, g_call, g_spec_l01Long,
                g_spec_l01Angle, g_spec_l02Axis, g_spec_l02Size, dF32_map, dF64_map, dI64_map, dU8_map, dBool_map, dStr_map, decL, dF32, dF64, dI64, dU8, dBool, dStr]
      repeat' (first
        | ((first | (refine eGI_of (fun h => ?_) (fun h => ?_)) | (refine eCc_of (fun h => ?_) (fun h => ?_))) <;> (try simp only [Bool.not_eq_true', Bool.not_eq_false'] at h) <;> (try simp only [h, reduceCtorEq, Bool.not_eq_true', decide_eq_false_iff_not, Bool.not_true, Bool.not_false, Bool.false_or, Bool.true_or, Bool.true_and, Bool.false_and, Bool.and_eq_true, Bool.or_eq_true, if_true, if_false, reduceIte, Bool.false_eq_true, and_true, true_and, false_or, or_false, decide_eq_true_eq, not_false_eq_true, not_true_eq_false] at hp) <;> (try (have h2 := h; simp only [decide_eq_true_eq, decide_eq_false_iff_not] at h2; (first | (replace h2 := eq_false h2) | (replace h2 := eq_true h2)); simp only [h2, if_true, if_false, false_or, true_or, or_true, or_false, and_true, true_and, not_false_eq_true, not_true_eq_false] at hp)) <;> simp only [h,
          hp, eA_seq, eA_reg, eA_ret, eA_skip, eA_cond, eA_block, eA_exit, eCc_true, eCc_false, Kq_normal, Kq_ret, Kq_exit, Kb_normal, Kb_exit, Kb_ret, Kreg_eq, eI_nil, bindSt_some,
                bindSt_none, bindSt_ite, eR_eq, eGI_tt, eGI_ff, eGI_tf, eGI_ft, eop, vop, ev_t, ev_c, ev_f, Option.map, put_some, put_none, set_eq, setH_eq, get_eq, hp_eq,
                keep_cons, keep_nil, lk_cons, lk_nil, startSt, envOf, reduceIte, Nat.reduceEqDiff, Nat.reduceAdd, Nat.zero_add, Nat.add_zero, Nat.reduceMul, Nat.reduceLT,
                Nat.reduceLeDiff, bop, uop, intop, fltop, convop, true_or, or_true, Bool.false_eq_true, ret_ok, ret_normal, outV, rvV, rvs, ex_some, pureV, pureX, pureX.pure1',
                pure1, Bool.true_and, Bool.false_and, Bool.and_true, Bool.and_false, Option.isNone_none, AV.cells, AV.one, storable, laid, refless, refless1, List.all_cons,
                List.all_nil, List.length_cons, List.length_nil, List.getElem?_cons_zero, List.getElem?_cons_succ, List.set_cons_zero, List.set_cons_succ, List.set_nil,
                List.map_cons, List.map_nil, vload, loadC, storeC, vnil, vfaddr, vextract, callTo, List.mapM_cons, List.mapM_nil, Option.pure_def, Option.bind_eq_bind,
                Option.bind_some, tabOf_cons, flatT, flatE, flatC, and_self, and_true, true_and, implies_true, forall_const, not_true_eq_false, not_false_eq_true, false_implies,
                List.take_succ_cons, List.drop_succ_cons, List.take_zero, List.drop_zero, Bool.not_true, Bool.not_false, beq_self_eq_true, decide_true, decide_false, eq_self,
                Int.reduceEq, Int.reduceLE, Int.reduceLT, Bool.not_not, Bool.true_or, Bool.or_true, Bool.false_or, Bool.or_false, if_true, if_false, List.getElem?_nil, Kl_normal,
                Kl_exit, Kl_ret, fc84_0, fc84_1, fc84_2, fc84_3, fc84_4, fc84_5, fc84_6, fc84_7, fc84_8, fc84_9, fc84_10, fc84_11, fc84_12, fc84_13, fc84_14, fc84_15, fc84_16,
                fc84_17, fc84_18, fc84_19, fc84_20, fc84_21, fc84_22, fc84_23, fc84_24, fc84_25, cast_lit, toNat_lit, Int.reduceAdd, Int.reduceSub, Int.reduceMul, Int.reduceNeg,
                Int.reducePow, Nat.reducePow, Int.reduceToNat, Nat.reduceSub, Nat.mul_one, Int.toNat_zero, prod_eta, List.nil_append, List.cons_append, List.append_nil, Int.le_refl,
                Nat.le_refl, true_implies, take_all, vconv, vmm, vidxA, viaddrA, iaddr_sl, iaddr_lsl, getE, vfield, vlen, fillC, fillE, List.replicate, elemsOf, List.length_map,
                f2iK_eq, bits_i64, bits_i32, bits_u64, bits_u32, bits_u8, e_mov, g_mov, e_box, g_box, e_load, g_load, e_bin, g_bin, e_faddr, g_faddr, e_call, g_call, g_spec_l01Long,
                g_spec_l01Angle, g_spec_l02Axis, g_spec_l02Size, dF32_map, dF64_map, dI64_map, dU8_map, dBool_map, dStr_map, decL, dF32, dF64, dI64, dU8, dBool, dStr]))
      all_goals (try simp only [*, m_spec_l02Angle, Bool.and_true, Bool.true_and, Bool.and_false, Bool.false_and, Bool.or_true, Bool.true_or, Bool.or_false, Bool.false_or, Bool.not_true, Bool.not_false, Bool.false_eq_true, if_true, if_false, reduceIte, decide_true, decide_false])
      all_goals (try (simp_all; done))
    · cases h
  · cases h
def v_spec_AxisOf_0 (x0 : (Nat × Nat × Nat × Nat)) : Nat := (fdiv .f32 (if (flt .f32 x0.1 0) = true then (x0.1, (fneg .f32 x0.2.1), (fneg .f32 x0.2.2.1), (fneg .f32 x0.2.2.2)) else
      x0).2.1 (m_spec_l01Long (m_spec_l02Axis x0)))
def v_spec_AxisOf_1 (x0 : (Nat × Nat × Nat × Nat)) : Nat := (fdiv .f32 (if (flt .f32 x0.1 0) = true then (x0.1, (fneg .f32 x0.2.1), (fneg .f32 x0.2.2.1), (fneg .f32 x0.2.2.2)) else
      x0).2.2.1 (m_spec_l01Long (m_spec_l02Axis x0)))
def v_spec_AxisOf_2 (x0 : (Nat × Nat × Nat × Nat)) : Nat := (fdiv .f32 (if (flt .f32 x0.1 0) = true then (x0.1, (fneg .f32 x0.2.1), (fneg .f32 x0.2.2.1), (fneg .f32 x0.2.2.2)) else
      x0).2.2.2 (m_spec_l01Long (m_spec_l02Axis x0)))
def m_spec_AxisOf (x0 : (Nat × Nat × Nat × Nat)) : (Nat × Nat × Nat) := (if (feq .f32 (m_spec_l01Long (m_spec_l02Axis x0)) 0) = true then (0, 0, 1065353216) else (if
      (m_spec_l01Finite (m_spec_l01Long (m_spec_l02Axis x0))) = true then ((v_spec_AxisOf_0 x0), (v_spec_AxisOf_1 x0), (v_spec_AxisOf_2 x0)) else (0, 0, 1065353216)))
def p_spec_AxisOf (x0 : (Nat × Nat × Nat × Nat)) : Bool := (p_spec_l01Long (m_spec_l02Axis x0))
def g_spec_AxisOf : List AV → Option AV
  | [.agg [.flt .f32 y0, .flt .f32 y1, .flt .f32 y2, .flt .f32 y3]] => if p_spec_AxisOf (y0, y1, y2, y3) = true then some (AV.agg [(.flt .f32
      (m_spec_AxisOf (y0, y1, y2, y3)).1), (.flt .f32 (m_spec_AxisOf (y0, y1, y2, y3)).2.1), (.flt .f32 (m_spec_AxisOf (y0, y1, y2, y3)).2.2)]) else none
  | _ => none
def ic100 : ICode := (.seq (.reg [⟨(some 1), none, (.box 4 (.t 0))⟩, ⟨(some 2), none, (.alloc (.agg [(.flt .f32 0), (.flt .f32 0), (.flt .f32 0)]))⟩] [1, 2]) (.seq (.reg [⟨(some 4),
      none, (.load (some 4) (.t 1))⟩, ⟨(some 5), none, (.call (.fn 76) [(.t 4)] [])⟩, ⟨(some 6), none, (.call (.fn 35) [(.t 5)] [])⟩, ⟨(some 3), none, (.mov (.t 6))⟩] [1, 2, 3])
      (.seq (.seq (.reg [⟨(some 7), none, (.mov (.t 3))⟩, ⟨(some 8), none, (.bin .eql false (.t 7) (.c (.flt .f32 0)))⟩, ⟨(some 9), none, (.mov (.t 8))⟩, ⟨(some 10), (some (9,
      false)), (.mov (.t 3))⟩, ⟨(some 11), (some (9, false)), (.call (.fn 58) [(.t 10)] [])⟩, ⟨(some 12), (some (9, false)), (.un .not (.t 11))⟩, ⟨(some 13), none, (.pick (.t 9) (.c
      (.bool true)) (.t 12))⟩] [1, 2, 3, 13]) (.cond (.t 13) (.seq (.reg [⟨(some 14), none, (.build [(.flt .f32 0), (.flt .f32 0), (.flt .f32 0)] [(2, 1, (.c (.flt .f32
      1065353216)))])⟩, ⟨none, none, (.store 3 (.t 2) (.t 14))⟩] [2]) .ret) .skip)) (.seq (.seq (.reg [⟨(some 15), none, (.faddr 0 (.t 1))⟩, ⟨(some 16), none, (.load none (.t 15))⟩,
      ⟨(some 17), none, (.bin .lss false (.t 16) (.c (.flt .f32 0)))⟩] [1, 2, 3, 17]) (.cond (.t 17) (.reg [⟨(some 18), none, (.faddr 0 (.t 1))⟩, ⟨(some 19), none, (.load none (.t
      18))⟩, ⟨(some 20), none, (.faddr 1 (.t 1))⟩, ⟨(some 21), none, (.load none (.t 20))⟩, ⟨(some 22), none, (.un .neg (.t 21))⟩, ⟨(some 23), none, (.faddr 2 (.t 1))⟩, ⟨(some 24),
      none, (.load none (.t 23))⟩, ⟨(some 25), none, (.un .neg (.t 24))⟩, ⟨(some 26), none, (.faddr 3 (.t 1))⟩, ⟨(some 27), none, (.load none (.t 26))⟩, ⟨(some 28), none, (.un .neg
      (.t 27))⟩, ⟨(some 29), none, (.build [(.flt .f32 0), (.flt .f32 0), (.flt .f32 0), (.flt .f32 0)] [(0, 1, (.t 19)), (1, 1, (.t 22)), (2, 1, (.t 25)), (3, 1, (.t 28))])⟩,
      ⟨none, none, (.store 4 (.t 1) (.t 29))⟩] [1, 2, 3]) .skip)) (.seq (.reg [⟨(some 30), none, (.faddr 1 (.t 1))⟩, ⟨(some 31), none, (.load none (.t 30))⟩, ⟨(some 32), none, (.mov
      (.t 3))⟩, ⟨(some 33), none, (.bin .quo false (.t 31) (.t 32))⟩, ⟨(some 34), none, (.faddr 2 (.t 1))⟩, ⟨(some 35), none, (.load none (.t 34))⟩, ⟨(some 36), none, (.mov (.t
      3))⟩, ⟨(some 37), none, (.bin .quo false (.t 35) (.t 36))⟩, ⟨(some 38), none, (.faddr 3 (.t 1))⟩, ⟨(some 39), none, (.load none (.t 38))⟩, ⟨(some 40), none, (.mov (.t 3))⟩,
      ⟨(some 41), none, (.bin .quo false (.t 39) (.t 40))⟩, ⟨(some 42), none, (.build [(.flt .f32 0), (.flt .f32 0), (.flt .f32 0)] [(0, 1, (.t 33)), (1, 1, (.t 37)), (2, 1, (.t
      41))])⟩, ⟨none, none, (.store 3 (.t 2) (.t 42))⟩] [2]) .ret)))))
def cp100 : CP := { n := 43, kp := [[1, 2], [1, 2, 3], [1, 2, 3, 13], [2], [1, 2, 3, 17], [1, 2, 3], [2]] }
theorem fc100_0 : IntKind.wrap .i64 (-1) = (-1) := by decide
theorem fc100_1 : IntKind.wrap .i64 0 = 0 := by decide
theorem fc100_2 : IntKind.wrap .i64 1 = 1 := by decide
theorem fc100_3 : IntKind.wrap .i64 10 = 10 := by decide
theorem fc100_4 : IntKind.wrap .i64 11 = 11 := by decide
theorem fc100_5 : IntKind.wrap .i64 110 = 110 := by decide
theorem fc100_6 : IntKind.wrap .i64 12 = 12 := by decide
theorem fc100_7 : IntKind.wrap .i64 13 = 13 := by decide
theorem fc100_8 : IntKind.wrap .i64 14 = 14 := by decide
theorem fc100_9 : IntKind.wrap .i64 15 = 15 := by decide
theorem fc100_10 : IntKind.wrap .i64 156 = 156 := by decide
theorem fc100_11 : IntKind.wrap .i64 16 = 16 := by decide
theorem fc100_12 : IntKind.wrap .i64 17 = 17 := by decide
theorem fc100_13 : IntKind.wrap .i64 2 = 2 := by decide
theorem fc100_14 : IntKind.wrap .i64 20 = 20 := by decide
theorem fc100_15 : IntKind.wrap .i64 210 = 210 := by decide
theorem fc100_16 : IntKind.wrap .i64 272 = 272 := by decide
theorem fc100_17 : IntKind.wrap .i64 3 = 3 := by decide
theorem fc100_18 : IntKind.wrap .i64 4 = 4 := by decide
theorem fc100_19 : IntKind.wrap .i64 42 = 42 := by decide
theorem fc100_20 : IntKind.wrap .i64 5 = 5 := by decide
theorem fc100_21 : IntKind.wrap .i64 6 = 6 := by decide
theorem fc100_22 : IntKind.wrap .i64 7 = 7 := by decide
theorem fc100_23 : IntKind.wrap .i64 72 = 72 := by decide
theorem fc100_24 : IntKind.wrap .i64 8 = 8 := by decide
theorem fc100_25 : IntKind.wrap .i64 9 = 9 := by decide
theorem s100 : ∀ vs r, g_spec_AxisOf vs = some r → Says Try.prog 100 vs r := by
  intro vs r h
  unfold g_spec_AxisOf at h
  split at h
  · rename_i y0 y1 y2 y3
    split at h
    · rename_i hp
      cases h
      refine spec_of (tab := tabOf [(35, g_spec_l01Long), (58, g_spec_l01Finite), (76, g_spec_l02Axis)]) (cp := cp100) (ic := ic100) (rvl := [(.c 2 (some 3))]) hm (tabOk_cons s35 (tabOk_cons s58 (tabOk_cons s76 tabOk_nil))) Try.func100 rfl rfl rfl (by kernel_rfl) rfl (Nat.le_of_ble_eq_true rfl) ?_
      show eA _ _ _ _
      unfold ic100
      simp only [p_spec_AxisOf, v_spec_AxisOf_0, v_spec_AxisOf_1, v_spec_AxisOf_2, Bool.and_eq_true, Bool.or_eq_true, decide_eq_true_eq, Bool.not_eq_true', decide_eq_false_iff_not] at hp
      simp only [
          hp, eA_seq, eA_reg, eA_ret, eA_skip, eA_cond, eA_block, eA_exit, eCc_true, eCc_false, Kq_normal, Kq_ret, Kq_exit, Kb_normal, Kb_exit, Kb_ret, Kreg_eq, eI_nil, bindSt_some,
                bindSt_none, bindSt_ite, eR_eq, eGI_tt, eGI_ff, eGI_tf, eGI_ft, eop, vop, ev_t, ev_c, ev_f, Option.map, put_some, put_none, set_eq, setH_eq, get_eq, hp_eq,
                keep_cons, keep_nil, lk_cons, lk_nil, startSt, envOf, reduceIte, Nat.reduceEqDiff, Nat.reduceAdd, Nat.zero_add, Nat.add_zero, Nat.reduceMul, Nat.reduceLT,
                Nat.reduceLeDiff, bop, uop, intop, fltop, convop, true_or, or_true, Bool.false_eq_true, ret_ok, ret_normal, outV, rvV, rvs, ex_some, pureV, pureX, pureX.pure1',
                pure1, Bool.true_and, Bool.false_and, Bool.and_true, Bool.and_false, Option.isNone_none, AV.cells, AV.one, storable, laid, refless, refless1, List.all_cons,
                List.all_nil, List.length_cons, List.length_nil, List.getElem?_cons_zero, List.getElem?_cons_succ, List.set_cons_zero, List.set_cons_succ, List.set_nil,
                List.map_cons, List.map_nil, vload, loadC, storeC, vnil, vfaddr, vextract, callTo, List.mapM_cons, List.mapM_nil, Option.pure_def, Option.bind_eq_bind,
                Option.bind_some, tabOf_cons, flatT, flatE, flatC, and_self, and_true, true_and, implies_true, forall_const, not_true_eq_false, not_false_eq_true, false_implies,
                List.take_succ_cons, List.drop_succ_cons, List.take_zero, List.drop_zero, Bool.not_true, Bool.not_false, beq_self_eq_true, decide_true, decide_false, eq_self,
                Int.reduceEq, Int.reduceLE, Int.reduceLT, Bool.not_not, Bool.true_or, Bool.or_true, Bool.false_or, Bool.or_false, if_true, if_false, List.getElem?_nil, Kl_normal,
                Kl_exit, Kl_ret, fc100_0, fc100_1, fc100_2, fc100_3, fc100_4, fc100_5, fc100_6, fc100_7, fc100_8, fc100_9, fc100_10, fc100_11, fc100_12, fc100_13, fc100_14,
                fc100_15, fc100_16, fc100_17, fc100_18, fc100_19, fc100_20, fc100_21, fc100_22, fc100_23, fc100_24, fc100_25, cast_lit, toNat_lit, Int.reduceAdd, Int.reduceSub,
                Int.reduceMul, Int.reduceNeg, Int.reducePow, Nat.reducePow, Int.reduceToNat, Nat.reduceSub, Nat.mul_one, Int.toNat_zero, prod_eta, List.nil_append, List.cons_append,
                List.append_nil, Int.le_refl, Nat.le_refl, true_implies, take_all, vconv, vmm, vidxA, viaddrA, iaddr_sl, iaddr_lsl, getE, vfield, vlen, fillC, fillE, List.replicate,
                elemsOf, List.length_map, f2iK_eq, bits_i64, bits_i32, bits_u64, bits_u32, bits_u8, e_mov, g_mov, e_pick, g_pick, e_alloc, g_alloc, e_box, g_box, e_build, g_build,
                e_load, g_load, e_store, g_store, e_bin, g_bin, e_un, g_un, e_faddr, g_faddr, e_call, g_call, g_spec_l01Long, g_spec_l01Finite, g_spec_l02Axis, dF32_map, dF64_map,
                dI64_map, dU8_map, dBool_map, dStr_map, decL, dF32, dF64, dI64, dU8, dBool, dStr, ↓b_pick, ePk_true, ePk_false]
      repeat' (first
        | ((first | (refine eGI_of (fun h => ?_) (fun h => ?_)) | (refine eCc_of (fun h => ?_) (fun h => ?_)) | (refine ePk_of (fun h => ?_) (fun h => ?_))) <;> (try simp only [Bool.not_eq_true', Bool.not_eq_false'] at h) <;> (try simp only [h, reduceCtorEq, Bool.not_eq_true', decide_eq_false_iff_not, Bool.not_true, Bool.not_false, Bool.false_or, Bool.true_or, Bool.true_and, Bool.false_and, Bool.and_eq_true, Bool.or_eq_true, if_true, if_false, reduceIte, Bool.false_eq_true, and_true, true_and, false_or, or_false, decide_eq_true_eq, not_false_eq_true, not_true_eq_false] at hp) <;> (try (have h2 := h; simp only [decide_eq_true_eq, decide_eq_false_iff_not] at h2; (first | (replace h2 := eq_false h2) | (replace h2 := eq_true h2)); simp only [h2, if_true, if_false, false_or, true_or, or_true, or_false, and_true, true_and, not_false_eq_true, not_true_eq_false] at hp)) <;> simp only [h,
          hp, eA_seq, eA_reg, eA_ret, eA_skip, eA_cond, eA_block, eA_exit, eCc_true, eCc_false, Kq_normal, Kq_ret, Kq_exit, Kb_normal, Kb_exit, Kb_ret, Kreg_eq, eI_nil, bindSt_some,
                bindSt_none, bindSt_ite, eR_eq, eGI_tt, eGI_ff, eGI_tf, eGI_ft, eop, vop, ev_t, ev_c, ev_f, Option.map, put_some, put_none, set_eq, setH_eq, get_eq, hp_eq,
                keep_cons, keep_nil, lk_cons, lk_nil, startSt, envOf, reduceIte, Nat.reduceEqDiff, Nat.reduceAdd, Nat.zero_add, Nat.add_zero, Nat.reduceMul, Nat.reduceLT,
                Nat.reduceLeDiff, bop, uop, intop, fltop, convop, true_or, or_true, Bool.false_eq_true, ret_ok, ret_normal, outV, rvV, rvs, ex_some, pureV, pureX, pureX.pure1',
                pure1, Bool.true_and, Bool.false_and, Bool.and_true, Bool.and_false, Option.isNone_none, AV.cells, AV.one, storable, laid, refless, refless1, List.all_cons,
                List.all_nil, List.length_cons, List.length_nil, List.getElem?_cons_zero, List.getElem?_cons_succ, List.set_cons_zero, List.set_cons_succ, List.set_nil,
                List.map_cons, List.map_nil, vload, loadC, storeC, vnil, vfaddr, vextract, callTo, List.mapM_cons, List.mapM_nil, Option.pure_def, Option.bind_eq_bind,
                Option.bind_some, tabOf_cons, flatT, flatE, flatC, and_self, and_true, true_and, implies_true, forall_const, not_true_eq_false, not_false_eq_true, false_implies,
                List.take_succ_cons, List.drop_succ_cons, List.take_zero, List.drop_zero, Bool.not_true, Bool.not_false, beq_self_eq_true, decide_true, decide_false, eq_self,
                Int.reduceEq, Int.reduceLE, Int.reduceLT, Bool.not_not, Bool.true_or, Bool.or_true, Bool.false_or, Bool.or_false, if_true, if_false, List.getElem?_nil, Kl_normal,
                Kl_exit, Kl_ret, fc100_0, fc100_1, fc100_2, fc100_3, fc100_4, fc100_5, fc100_6, fc100_7, fc100_8, fc100_9, fc100_10, fc100_11, fc100_12, fc100_13, fc100_14,
                fc100_15, fc100_16, fc100_17, fc100_18, fc100_19, fc100_20, fc100_21, fc100_22, fc100_23, fc100_24, fc100_25, cast_lit, toNat_lit, Int.reduceAdd, Int.reduceSub,
                Int.reduceMul, Int.reduceNeg, Int.reducePow, Nat.reducePow, Int.reduceToNat, Nat.reduceSub, Nat.mul_one, Int.toNat_zero, prod_eta, List.nil_append, List.cons_append,
                List.append_nil, Int.le_refl, Nat.le_refl, true_implies, take_all, vconv, vmm, vidxA, viaddrA, iaddr_sl, iaddr_lsl, getE, vfield, vlen, fillC, fillE, List.replicate,
                elemsOf, List.length_map, f2iK_eq, bits_i64, bits_i32, bits_u64, bits_u32, bits_u8, e_mov, g_mov, e_pick, g_pick, e_alloc, g_alloc, e_box, g_box, e_build, g_build,
                e_load, g_load, e_store, g_store, e_bin, g_bin, e_un, g_un, e_faddr, g_faddr, e_call, g_call, g_spec_l01Long, g_spec_l01Finite, g_spec_l02Axis, dF32_map, dF64_map,
                dI64_map, dU8_map, dBool_map, dStr_map, decL, dF32, dF64, dI64, dU8, dBool, dStr, ↓b_pick, ePk_true, ePk_false]))
      all_goals (try simp only [*, m_spec_AxisOf, v_spec_AxisOf_0, v_spec_AxisOf_1, v_spec_AxisOf_2, Bool.and_true, Bool.true_and, Bool.and_false, Bool.false_and, Bool.or_true, Bool.true_or, Bool.or_false, Bool.false_or, Bool.not_true, Bool.not_false, Bool.false_eq_true, if_true, if_false, reduceIte, decide_true, decide_false])
      all_goals (try (simp_all; done))
    · cases h
  · cases h
def m_spec_l04Axis (x0 : (Nat × Nat × Nat × Nat)) : (Nat × Nat × Nat) := (m_spec_AxisOf x0)
def p_spec_l04Axis (x0 : (Nat × Nat × Nat × Nat)) : Bool := (p_spec_AxisOf x0)
def g_spec_l04Axis : List AV → Option AV
  | [.agg [.flt .f32 y0, .flt .f32 y1, .flt .f32 y2, .flt .f32 y3]] => if p_spec_l04Axis (y0, y1, y2, y3) = true then some (AV.agg [(.flt
      .f32 (m_spec_l04Axis (y0, y1, y2, y3)).1), (.flt .f32 (m_spec_l04Axis (y0, y1, y2, y3)).2.1), (.flt .f32 (m_spec_l04Axis (y0, y1, y2, y3)).2.2)]) else none
  | _ => none
def ic85 : ICode := (.seq (.reg [⟨(some 1), none, (.box 4 (.t 0))⟩, ⟨(some 2), none, (.alloc (.agg [(.flt .f32 0), (.flt .f32 0), (.flt .f32 0)]))⟩] [1, 2]) (.seq (.reg [⟨(some 3),
      none, (.load (some 4) (.t 1))⟩, ⟨(some 4), none, (.call (.fn 100) [(.t 3)] [])⟩, ⟨none, none, (.store 3 (.t 2) (.t 4))⟩] [2]) .ret))
def cp85 : CP := { n := 5, kp := [[1, 2], [2]] }
theorem fc85_0 : IntKind.wrap .i64 (-1) = (-1) := by decide
theorem fc85_1 : IntKind.wrap .i64 0 = 0 := by decide
theorem fc85_2 : IntKind.wrap .i64 1 = 1 := by decide
theorem fc85_3 : IntKind.wrap .i64 10 = 10 := by decide
theorem fc85_4 : IntKind.wrap .i64 11 = 11 := by decide
theorem fc85_5 : IntKind.wrap .i64 110 = 110 := by decide
theorem fc85_6 : IntKind.wrap .i64 12 = 12 := by decide
theorem fc85_7 : IntKind.wrap .i64 13 = 13 := by decide
theorem fc85_8 : IntKind.wrap .i64 14 = 14 := by decide
theorem fc85_9 : IntKind.wrap .i64 15 = 15 := by decide
theorem fc85_10 : IntKind.wrap .i64 156 = 156 := by decide
theorem fc85_11 : IntKind.wrap .i64 16 = 16 := by decide
theorem fc85_12 : IntKind.wrap .i64 17 = 17 := by decide
theorem fc85_13 : IntKind.wrap .i64 2 = 2 := by decide
theorem fc85_14 : IntKind.wrap .i64 20 = 20 := by decide
theorem fc85_15 : IntKind.wrap .i64 210 = 210 := by decide
theorem fc85_16 : IntKind.wrap .i64 272 = 272 := by decide
theorem fc85_17 : IntKind.wrap .i64 3 = 3 := by decide
theorem fc85_18 : IntKind.wrap .i64 4 = 4 := by decide
theorem fc85_19 : IntKind.wrap .i64 42 = 42 := by decide
theorem fc85_20 : IntKind.wrap .i64 5 = 5 := by decide
theorem fc85_21 : IntKind.wrap .i64 6 = 6 := by decide
theorem fc85_22 : IntKind.wrap .i64 7 = 7 := by decide
theorem fc85_23 : IntKind.wrap .i64 72 = 72 := by decide
theorem fc85_24 : IntKind.wrap .i64 8 = 8 := by decide
theorem fc85_25 : IntKind.wrap .i64 9 = 9 := by decide
theorem s85 : ∀ vs r, g_spec_l04Axis vs = some r → Says Try.prog 85 vs r := by
  intro vs r h
  unfold g_spec_l04Axis at h
  split at h
  · rename_i y0 y1 y2 y3
    split at h
    · rename_i hp
      cases h
      refine spec_of (tab := tabOf [(100, g_spec_AxisOf)]) (cp := cp85) (ic := ic85) (rvl := [(.c 2 (some 3))]) hm (tabOk_cons s100 tabOk_nil) Try.func85 rfl rfl rfl (by kernel_rfl) rfl (Nat.le_of_ble_eq_true rfl) ?_
      show eA _ _ _ _
      unfold ic85
      simp only [p_spec_l04Axis, Bool.and_eq_true, Bool.or_eq_true, decide_eq_true_eq, Bool.not_eq_true', decide_eq_false_iff_not] at hp
      simp only [
          hp, eA_seq, eA_reg, eA_ret, eA_skip, eA_cond, eA_block, eA_exit, eCc_true, eCc_false, Kq_normal, Kq_ret, Kq_exit, Kb_normal, Kb_exit, Kb_ret, Kreg_eq, eI_nil, bindSt_some,
                bindSt_none, bindSt_ite, eR_eq, eGI_tt, eGI_ff, eGI_tf, eGI_ft, eop, vop, ev_t, ev_c, ev_f, Option.map, put_some, put_none, set_eq, setH_eq, get_eq, hp_eq,
                keep_cons, keep_nil, lk_cons, lk_nil, startSt, envOf, reduceIte, Nat.reduceEqDiff, Nat.reduceAdd, Nat.zero_add, Nat.add_zero, Nat.reduceMul, Nat.reduceLT,
                Nat.reduceLeDiff, bop, uop, intop, fltop, convop, true_or, or_true, Bool.false_eq_true, ret_ok, ret_normal, outV, rvV, rvs, ex_some, pureV, pureX, pureX.pure1',
                pure1, Bool.true_and, Bool.false_and, Bool.and_true, Bool.and_false, Option.isNone_none, AV.cells, AV.one, storable, laid, refless, refless1, List.all_cons,
                List.all_nil, List.length_cons, List.length_nil, List.getElem?_cons_zero, List.getElem?_cons_succ, List.set_cons_zero, List.set_cons_succ, List.set_nil,
                List.map_cons, List.map_nil, vload, loadC, storeC, vnil, vfaddr, vextract, callTo, List.mapM_cons, List.mapM_nil, Option.pure_def, Option.bind_eq_bind,
                Option.bind_some, tabOf_cons, flatT, flatE, flatC, and_self, and_true, true_and, implies_true, forall_const, not_true_eq_false, not_false_eq_true, false_implies,
                List.take_succ_cons, List.drop_succ_cons, List.take_zero, List.drop_zero, Bool.not_true, Bool.not_false, beq_self_eq_true, decide_true, decide_false, eq_self,
                Int.reduceEq, Int.reduceLE, Int.reduceLT, Bool.not_not, Bool.true_or, Bool.or_true, Bool.false_or, Bool.or_false, if_true, if_false, List.getElem?_nil, Kl_normal,
                Kl_exit, Kl_ret, fc85_0, fc85_1, fc85_2, fc85_3, fc85_4, fc85_5, fc85_6, fc85_7, fc85_8, fc85_9, fc85_10, fc85_11, fc85_12, fc85_13, fc85_14, fc85_15, fc85_16,
                fc85_17, fc85_18, fc85_19, fc85_20, fc85_21, fc85_22, fc85_23, fc85_24, fc85_25, cast_lit, toNat_lit, Int.reduceAdd, Int.reduceSub, Int.reduceMul, Int.reduceNeg,
                Int.reducePow, Nat.reducePow, Int.reduceToNat, Nat.reduceSub, Nat.mul_one, Int.toNat_zero, prod_eta, List.nil_append, List.cons_append, List.append_nil, Int.le_refl,
                Nat.le_refl, true_implies, take_all, vconv, vmm, vidxA, viaddrA, iaddr_sl, iaddr_lsl, getE, vfield, vlen, fillC, fillE, List.replicate, elemsOf, List.length_map,
                f2iK_eq, bits_i64, bits_i32, bits_u64, bits_u32, bits_u8, e_alloc, g_alloc, e_box, g_box, e_load, g_load, e_store, g_store, e_call, g_call, g_spec_AxisOf, dF32_map,
                dF64_map, dI64_map, dU8_map, dBool_map, dStr_map, decL, dF32, dF64, dI64, dU8, dBool, dStr]
      repeat' (first
        | ((first | (refine eGI_of (fun h => ?_) (fun h => ?_)) | (refine eCc_of (fun h => ?_) (fun h => ?_))) <;> (try simp only [Bool.not_eq_true', Bool.not_eq_false'] at h) <;> (try simp only [h, reduceCtorEq, Bool.not_eq_true', decide_eq_false_iff_not, Bool.not_true, Bool.not_false, Bool.false_or, Bool.true_or, Bool.true_and, Bool.false_and, Bool.and_eq_true, Bool.or_eq_true, if_true, if_false, reduceIte, Bool.false_eq_true, and_true, true_and, false_or, or_false, decide_eq_true_eq, not_false_eq_true, not_true_eq_false] at hp) <;> (try (have h2 := h; simp only [decide_eq_true_eq, decide_eq_false_iff_not] at h2; (first | (replace h2 := eq_false h2) | (replace h2 := eq_true h2)); simp only [h2, if_true, if_false, false_or, true_or, or_true, or_false, and_true, true_and, not_false_eq_true, not_true_eq_false] at hp)) <;> simp only [h,
          hp, eA_seq, eA_reg, eA_ret, eA_skip, eA_cond, eA_block, eA_exit, eCc_true, eCc_false, Kq_normal, Kq_ret, Kq_exit, Kb_normal, Kb_exit, Kb_ret, Kreg_eq, eI_nil, bindSt_some,
                bindSt_none, bindSt_ite, eR_eq, eGI_tt, eGI_ff, eGI_tf, eGI_ft, eop, vop, ev_t, ev_c, ev_f, Option.map, put_some, put_none, set_eq, setH_eq, get_eq, hp_eq,
                keep_cons, keep_nil, lk_cons, lk_nil, startSt, envOf, reduceIte, Nat.reduceEqDiff, Nat.reduceAdd, Nat.zero_add, Nat.add_zero, Nat.reduceMul, Nat.reduceLT,
                Nat.reduceLeDiff, bop, uop, intop, fltop, convop, true_or, or_true, Bool.false_eq_true, ret_ok, ret_normal, outV, rvV, rvs, ex_some, pureV, pureX, pureX.pure1',
                pure1, Bool.true_and, Bool.false_and, Bool.and_true, Bool.and_false, Option.isNone_none, AV.cells, AV.one, storable, laid, refless, refless1, List.all_cons,
                List.all_nil, List.length_cons, List.length_nil, List.getElem?_cons_zero, List.getElem?_cons_succ, List.set_cons_zero, List.set_cons_succ, List.set_nil,
                List.map_cons, List.map_nil, vload, loadC, storeC, vnil, vfaddr, vextract, callTo, List.mapM_cons, List.mapM_nil, Option.pure_def, Option.bind_eq_bind,
                Option.bind_some, tabOf_cons, flatT, flatE, flatC, and_self, and_true, true_and, implies_true, forall_const, not_true_eq_false, not_false_eq_true, false_implies,
                List.take_succ_cons, List.drop_succ_cons, List.take_zero, List.drop_zero, Bool.not_true, Bool.not_false, beq_self_eq_true, decide_true, decide_false, eq_self,
                Int.reduceEq, Int.reduceLE, Int.reduceLT, Bool.not_not, Bool.true_or, Bool.or_true, Bool.false_or, Bool.or_false, if_true, if_false, List.getElem?_nil, Kl_normal,
                Kl_exit, Kl_ret, fc85_0, fc85_1, fc85_2, fc85_3, fc85_4, fc85_5, fc85_6, fc85_7, fc85_8, fc85_9, fc85_10, fc85_11, fc85_12, fc85_13, fc85_14, fc85_15, fc85_16,
                fc85_17, fc85_18, fc85_19, fc85_20, fc85_21, fc85_22, fc85_23, fc85_24, fc85_25, cast_lit, toNat_lit, Int.reduceAdd, Int.reduceSub, Int.reduceMul, Int.reduceNeg,
                Int.reducePow, Nat.reducePow, Int.reduceToNat, Nat.reduceSub, Nat.mul_one, Int.toNat_zero, prod_eta, List.nil_append, List.cons_append, List.append_nil, Int.le_refl,
                Nat.le_refl, true_implies, take_all, vconv, vmm, vidxA, viaddrA, iaddr_sl, iaddr_lsl, getE, vfield, vlen, fillC, fillE, List.replicate, elemsOf, List.length_map,
                f2iK_eq, bits_i64, bits_i32, bits_u64, bits_u32, bits_u8, e_alloc, g_alloc, e_box, g_box, e_load, g_load, e_store, g_store, e_call, g_call, g_spec_AxisOf, dF32_map,
                dF64_map, dI64_map, dU8_map, dBool_map, dStr_map, decL, dF32, dF64, dI64, dU8, dBool, dStr]))
      all_goals (try simp only [*, m_spec_l04Axis, Bool.and_true, Bool.true_and, Bool.and_false, Bool.false_and, Bool.or_true, Bool.true_or, Bool.or_false, Bool.false_or, Bool.not_true, Bool.not_false, Bool.false_eq_true, if_true, if_false, reduceIte, decide_true, decide_false])
      all_goals (try (simp_all; done))
    · cases h
  · cases h
def v_spec_l01SineWide_0 (x0 : Nat) : Nat := (if (flt .f64 (fsub .f64 x0 (ofInt .f64 (f2iV .f64 x0))) 0) = true then (fadd .f64 (fsub .f64 x0 (ofInt .f64 (f2iV .f64 x0)))
      4607182418800017408) else (fsub .f64 x0 (ofInt .f64 (f2iV .f64 x0))))
def v_spec_l01SineWide_1 (x0 : Nat) : Nat := (if (fle .f64 4602678819172646912 (v_spec_l01SineWide_0 x0)) = true then (fsub .f64 (v_spec_l01SineWide_0 x0) 4602678819172646912) else
      (v_spec_l01SineWide_0 x0))
def v_spec_l01SineWide_2 (x0 : Nat) : Nat := (if (flt .f64 4598175219545276416 (v_spec_l01SineWide_1 x0)) = true then (fsub .f64 4602678819172646912 (v_spec_l01SineWide_1 x0)) else
      (v_spec_l01SineWide_1 x0))
def v_spec_l01SineWide_3 (x0 : Nat) : Nat := (fdiv .f64 (fmul .f64 (fmul .f64 (fmul .f64 (v_spec_l01SineWide_2 x0) 4618760256179416344) (fmul .f64 (v_spec_l01SineWide_2 x0)
      4618760256179416344)) 4607182418800017408) (ofInt .f64 272))
def v_spec_l01SineWide_4 (x0 : Nat) : Nat := (fmul .f64 (fmul .f64 (fmul .f64 (v_spec_l01SineWide_2 x0) 4618760256179416344) (fmul .f64 (v_spec_l01SineWide_2 x0)
      4618760256179416344)) (fsub .f64 4607182418800017408 (v_spec_l01SineWide_3 x0)))
def v_spec_l01SineWide_5 (x0 : Nat) : Nat := (fmul .f64 (fmul .f64 (fmul .f64 (v_spec_l01SineWide_2 x0) 4618760256179416344) (fmul .f64 (v_spec_l01SineWide_2 x0)
      4618760256179416344)) (fsub .f64 4607182418800017408 (fdiv .f64 (v_spec_l01SineWide_4 x0) (ofInt .f64 210))))
def v_spec_l01SineWide_6 (x0 : Nat) : Nat := (fmul .f64 (fmul .f64 (fmul .f64 (v_spec_l01SineWide_2 x0) 4618760256179416344) (fmul .f64 (v_spec_l01SineWide_2 x0)
      4618760256179416344)) (fsub .f64 4607182418800017408 (fdiv .f64 (v_spec_l01SineWide_5 x0) (ofInt .f64 156))))
def v_spec_l01SineWide_7 (x0 : Nat) : Nat := (fmul .f64 (fmul .f64 (fmul .f64 (v_spec_l01SineWide_2 x0) 4618760256179416344) (fmul .f64 (v_spec_l01SineWide_2 x0)
      4618760256179416344)) (fsub .f64 4607182418800017408 (fdiv .f64 (v_spec_l01SineWide_6 x0) (ofInt .f64 110))))
def v_spec_l01SineWide_8 (x0 : Nat) : Nat := (fmul .f64 (fmul .f64 (fmul .f64 (v_spec_l01SineWide_2 x0) 4618760256179416344) (fmul .f64 (v_spec_l01SineWide_2 x0)
      4618760256179416344)) (fsub .f64 4607182418800017408 (fdiv .f64 (v_spec_l01SineWide_7 x0) (ofInt .f64 72))))
def v_spec_l01SineWide_9 (x0 : Nat) : Nat := (fmul .f64 (fmul .f64 (fmul .f64 (v_spec_l01SineWide_2 x0) 4618760256179416344) (fmul .f64 (v_spec_l01SineWide_2 x0)
      4618760256179416344)) (fsub .f64 4607182418800017408 (fdiv .f64 (v_spec_l01SineWide_8 x0) (ofInt .f64 42))))
def v_spec_l01SineWide_10 (x0 : Nat) : Nat := (fmul .f64 (fmul .f64 (fmul .f64 (v_spec_l01SineWide_2 x0) 4618760256179416344) (fmul .f64 (v_spec_l01SineWide_2 x0)
      4618760256179416344)) (fsub .f64 4607182418800017408 (fdiv .f64 (v_spec_l01SineWide_9 x0) (ofInt .f64 20))))
def v_spec_l01SineWide_11 (x0 : Nat) : Nat := (fneg .f64 (fmul .f64 (fmul .f64 (v_spec_l01SineWide_2 x0) 4618760256179416344) (fsub .f64 4607182418800017408 (fdiv .f64
      (v_spec_l01SineWide_10 x0) (ofInt .f64 6)))))
def m_spec_l01SineWide (x0 : Nat) : Nat := (if (feq .f64 (fsub .f64 x0 x0) 0) = true then (if (fle .f64 4841369599423283200 x0) = true then 0 else (if (fle .f64 x0
      14064741636278059008) = true then 0 else (if (fle .f64 4602678819172646912 (v_spec_l01SineWide_0 x0)) = true then (v_spec_l01SineWide_11 x0) else (fmul .f64 (fmul .f64
      (v_spec_l01SineWide_2 x0) 4618760256179416344) (fsub .f64 4607182418800017408 (fdiv .f64 (v_spec_l01SineWide_10 x0) (ofInt .f64 6))))))) else (m_math_NaN))
def p_spec_l01SineWide (x0 : Nat) : Bool := (!(feq .f64 (fsub .f64 x0 x0) 0) || ((fle .f64 4841369599423283200 x0) || ((fle .f64 x0 14064741636278059008) || (f2iOk .i64 .f64 x0))))
def g_spec_l01SineWide : List AV → Option AV
  | [.flt .f64 y0] => if p_spec_l01SineWide y0 = true then some (.flt .f64 (m_spec_l01SineWide y0)) else none
  | _ => none
def ic83 : ICode := (.seq (.reg [⟨(some 2), none, (.mov (.c (.flt .f64 0)))⟩] [0]) (.seq (.seq (.reg [⟨(some 9), none, (.mov (.t 0))⟩, ⟨(some 10), none, (.mov (.t 0))⟩, ⟨(some 11),
      none, (.bin .sub false (.t 9) (.t 10))⟩, ⟨(some 12), none, (.bin .neq false (.t 11) (.c (.flt .f64 0)))⟩] [0, 12]) (.cond (.t 12) (.seq (.reg [⟨(some 13), none, (.call (.fn
      73) [] [])⟩, ⟨(some 2), none, (.mov (.t 13))⟩] [2]) .ret) .skip)) (.seq (.seq (.reg [⟨(some 14), none, (.mov (.t 0))⟩, ⟨(some 15), none, (.bin .geq false (.t 14) (.c (.flt
      .f64 4841369599423283200)))⟩, ⟨(some 16), none, (.mov (.t 15))⟩, ⟨(some 17), (some (16, false)), (.mov (.t 0))⟩, ⟨(some 18), (some (16, false)), (.bin .leq false (.t 17) (.c
      (.flt .f64 14064741636278059008)))⟩, ⟨(some 19), none, (.pick (.t 16) (.c (.bool true)) (.t 18))⟩] [0, 19]) (.cond (.t 19) (.seq (.reg [⟨(some 2), none, (.mov (.c (.flt .f64
      0)))⟩] [2]) .ret) .skip)) (.seq (.reg [⟨(some 20), none, (.mov (.t 0))⟩, ⟨(some 21), none, (.mov (.t 0))⟩, ⟨(some 22), none, (.conv (.int .i64) (.t 21))⟩, ⟨(some 23), none,
      (.conv (.flt .f64) (.t 22))⟩, ⟨(some 24), none, (.bin .sub false (.t 20) (.t 23))⟩, ⟨(some 3), none, (.mov (.t 24))⟩] [3]) (.seq (.seq (.reg [⟨(some 25), none, (.mov (.t 3))⟩,
      ⟨(some 26), none, (.bin .lss false (.t 25) (.c (.flt .f64 0)))⟩] [3, 26]) (.cond (.t 26) (.reg [⟨(some 27), none, (.mov (.t 3))⟩, ⟨(some 28), none, (.bin .add false (.t 27)
      (.c (.flt .f64 4607182418800017408)))⟩, ⟨(some 3), none, (.mov (.t 28))⟩] [3]) .skip)) (.seq (.reg [⟨(some 29), none, (.mov (.t 3))⟩, ⟨(some 30), none, (.bin .geq false (.t
      29) (.c (.flt .f64 4602678819172646912)))⟩, ⟨(some 4), none, (.mov (.t 30))⟩] [3, 4]) (.seq (.seq (.reg [⟨(some 31), none, (.mov (.t 4))⟩] [3, 4, 31]) (.cond (.t 31) (.reg
      [⟨(some 32), none, (.mov (.t 3))⟩, ⟨(some 33), none, (.bin .sub false (.t 32) (.c (.flt .f64 4602678819172646912)))⟩, ⟨(some 3), none, (.mov (.t 33))⟩] [3, 4]) .skip)) (.seq
      (.seq (.reg [⟨(some 34), none, (.mov (.t 3))⟩, ⟨(some 35), none, (.bin .gtr false (.t 34) (.c (.flt .f64 4598175219545276416)))⟩] [3, 4, 35]) (.cond (.t 35) (.reg [⟨(some 36),
      none, (.mov (.t 3))⟩, ⟨(some 37), none, (.bin .sub false (.c (.flt .f64 4602678819172646912)) (.t 36))⟩, ⟨(some 3), none, (.mov (.t 37))⟩] [3, 4]) .skip)) (.seq (.reg [⟨(some
      38), none, (.mov (.t 3))⟩, ⟨(some 39), none, (.bin .mul false (.t 38) (.c (.flt .f64 4618760256179416344)))⟩, ⟨(some 5), none, (.mov (.t 39))⟩] [4, 5]) (.seq (.reg [⟨(some
      40), none, (.mov (.t 5))⟩, ⟨(some 41), none, (.mov (.t 5))⟩, ⟨(some 42), none, (.bin .mul false (.t 40) (.t 41))⟩, ⟨(some 6), none, (.mov (.t 42))⟩] [4, 5, 6]) (.seq (.reg
      [⟨(some 7), none, (.mov (.c (.flt .f64 4607182418800017408)))⟩] [4, 5, 6, 7]) (.seq (.seq (.reg [⟨(some 8), none, (.mov (.c (.int .i64 8)))⟩] [4, 5, 6, 7, 8]) (.block 0 (.loop
      (.seq (.seq (.reg [⟨(some 43), none, (.mov (.t 8))⟩, ⟨(some 44), none, (.bin .geq false (.t 43) (.c (.int .i64 1)))⟩] [4, 5, 6, 7, 8, 44]) (.cond (.t 44) .skip (.exit 0)))
      (.seq (.block 1 (.reg [⟨(some 47), none, (.mov (.t 6))⟩, ⟨(some 48), none, (.mov (.t 7))⟩, ⟨(some 49), none, (.bin .mul false (.t 47) (.t 48))⟩, ⟨(some 50), none, (.mov (.t
      8))⟩, ⟨(some 51), none, (.bin .mul false (.c (.int .i64 2)) (.t 50))⟩, ⟨(some 52), none, (.mov (.t 8))⟩, ⟨(some 53), none, (.bin .mul false (.c (.int .i64 2)) (.t 52))⟩,
      ⟨(some 54), none, (.bin .add false (.t 53) (.c (.int .i64 1)))⟩, ⟨(some 55), none, (.bin .mul false (.t 51) (.t 54))⟩, ⟨(some 56), none, (.conv (.flt .f64) (.t 55))⟩, ⟨(some
      57), none, (.bin .quo false (.t 49) (.t 56))⟩, ⟨(some 58), none, (.bin .sub false (.c (.flt .f64 4607182418800017408)) (.t 57))⟩, ⟨(some 7), none, (.mov (.t 58))⟩] [4, 5, 6,
      7, 8])) (.reg [⟨(some 45), none, (.mov (.t 8))⟩, ⟨(some 46), none, (.bin .sub false (.t 45) (.c (.int .i64 1)))⟩, ⟨(some 8), none, (.mov (.t 46))⟩] [4, 5, 6, 7, 8])))))) (.seq
      (.seq (.reg [⟨(some 59), none, (.mov (.t 4))⟩] [5, 7, 59]) (.cond (.t 59) (.seq (.reg [⟨(some 60), none, (.mov (.t 5))⟩, ⟨(some 61), none, (.mov (.t 7))⟩, ⟨(some 62), none,
      (.bin .mul false (.t 60) (.t 61))⟩, ⟨(some 63), none, (.un .neg (.t 62))⟩, ⟨(some 2), none, (.mov (.t 63))⟩] [2]) .ret) .skip)) (.seq (.reg [⟨(some 64), none, (.mov (.t 5))⟩,
      ⟨(some 65), none, (.mov (.t 7))⟩, ⟨(some 66), none, (.bin .mul false (.t 64) (.t 65))⟩, ⟨(some 2), none, (.mov (.t 66))⟩] [2]) .ret))))))))))))))
def cp83 : CP := { n := 67, kp := [[0], [0, 12], [2], [0, 19], [2], [3], [3, 26], [3], [3, 4], [3, 4, 31], [3, 4], [3, 4, 35], [3, 4], [4, 5], [4, 5, 6], [4, 5, 6, 7], [4, 5, 6, 7,
      8], [4, 5, 6, 7, 8, 44], [4, 5, 6, 7, 8], [4, 5, 6, 7, 8], [5, 7, 59], [2], [2]] }
theorem fc83_0 : IntKind.wrap .i64 (-1) = (-1) := by decide
theorem fc83_1 : IntKind.wrap .i64 0 = 0 := by decide
theorem fc83_2 : IntKind.wrap .i64 1 = 1 := by decide
theorem fc83_3 : IntKind.wrap .i64 10 = 10 := by decide
theorem fc83_4 : IntKind.wrap .i64 11 = 11 := by decide
theorem fc83_5 : IntKind.wrap .i64 110 = 110 := by decide
theorem fc83_6 : IntKind.wrap .i64 12 = 12 := by decide
theorem fc83_7 : IntKind.wrap .i64 13 = 13 := by decide
theorem fc83_8 : IntKind.wrap .i64 14 = 14 := by decide
theorem fc83_9 : IntKind.wrap .i64 15 = 15 := by decide
theorem fc83_10 : IntKind.wrap .i64 156 = 156 := by decide
theorem fc83_11 : IntKind.wrap .i64 16 = 16 := by decide
theorem fc83_12 : IntKind.wrap .i64 17 = 17 := by decide
theorem fc83_13 : IntKind.wrap .i64 2 = 2 := by decide
theorem fc83_14 : IntKind.wrap .i64 20 = 20 := by decide
theorem fc83_15 : IntKind.wrap .i64 210 = 210 := by decide
theorem fc83_16 : IntKind.wrap .i64 272 = 272 := by decide
theorem fc83_17 : IntKind.wrap .i64 3 = 3 := by decide
theorem fc83_18 : IntKind.wrap .i64 4 = 4 := by decide
theorem fc83_19 : IntKind.wrap .i64 42 = 42 := by decide
theorem fc83_20 : IntKind.wrap .i64 5 = 5 := by decide
theorem fc83_21 : IntKind.wrap .i64 6 = 6 := by decide
theorem fc83_22 : IntKind.wrap .i64 7 = 7 := by decide
theorem fc83_23 : IntKind.wrap .i64 72 = 72 := by decide
theorem fc83_24 : IntKind.wrap .i64 8 = 8 := by decide
theorem fc83_25 : IntKind.wrap .i64 9 = 9 := by decide
theorem s83 : ∀ vs r, g_spec_l01SineWide vs = some r → Says Try.prog 83 vs r := by
  intro vs r h
  unfold g_spec_l01SineWide at h
  split at h
  · rename_i y0
    split at h
    · rename_i hp
      cases h
      refine spec_of (tab := tabOf [(73, g_math_NaN)]) (cp := cp83) (ic := ic83) (rvl := [(.t 2)]) hm (tabOk_cons s73 tabOk_nil) Try.func83 rfl rfl rfl (by kernel_rfl) rfl (Nat.le_of_ble_eq_true rfl) ?_
      show eA _ _ _ _
      unfold ic83
      simp only [p_spec_l01SineWide, v_spec_l01SineWide_0, v_spec_l01SineWide_1, v_spec_l01SineWide_2, v_spec_l01SineWide_3, v_spec_l01SineWide_4, v_spec_l01SineWide_5, v_spec_l01SineWide_6, v_spec_l01SineWide_7, v_spec_l01SineWide_8, v_spec_l01SineWide_9, v_spec_l01SineWide_10, v_spec_l01SineWide_11, Bool.and_eq_true, Bool.or_eq_true, decide_eq_true_eq, Bool.not_eq_true', decide_eq_false_iff_not] at hp
      simp only [
          hp, eA_seq, eA_reg, eA_ret, eA_skip, eA_cond, eA_block, eA_exit, eCc_true, eCc_false, Kq_normal, Kq_ret, Kq_exit, Kb_normal, Kb_exit, Kb_ret, Kreg_eq, eI_nil, bindSt_some,
                bindSt_none, bindSt_ite, eR_eq, eGI_tt, eGI_ff, eGI_tf, eGI_ft, eop, vop, ev_t, ev_c, ev_f, Option.map, put_some, put_none, set_eq, setH_eq, get_eq, hp_eq,
                keep_cons, keep_nil, lk_cons, lk_nil, startSt, envOf, reduceIte, Nat.reduceEqDiff, Nat.reduceAdd, Nat.zero_add, Nat.add_zero, Nat.reduceMul, Nat.reduceLT,
                Nat.reduceLeDiff, bop, uop, intop, fltop, convop, true_or, or_true, Bool.false_eq_true, ret_ok, ret_normal, outV, rvV, rvs, ex_some, pureV, pureX, pureX.pure1',
                pure1, Bool.true_and, Bool.false_and, Bool.and_true, Bool.and_false, Option.isNone_none, AV.cells, AV.one, storable, laid, refless, refless1, List.all_cons,
                List.all_nil, List.length_cons, List.length_nil, List.getElem?_cons_zero, List.getElem?_cons_succ, List.set_cons_zero, List.set_cons_succ, List.set_nil,
                List.map_cons, List.map_nil, vload, loadC, storeC, vnil, vfaddr, vextract, callTo, List.mapM_cons, List.mapM_nil, Option.pure_def, Option.bind_eq_bind,
                Option.bind_some, tabOf_cons, flatT, flatE, flatC, and_self, and_true, true_and, implies_true, forall_const, not_true_eq_false, not_false_eq_true, false_implies,
                List.take_succ_cons, List.drop_succ_cons, List.take_zero, List.drop_zero, Bool.not_true, Bool.not_false, beq_self_eq_true, decide_true, decide_false, eq_self,
                Int.reduceEq, Int.reduceLE, Int.reduceLT, Bool.not_not, Bool.true_or, Bool.or_true, Bool.false_or, Bool.or_false, if_true, if_false, List.getElem?_nil, Kl_normal,
                Kl_exit, Kl_ret, fc83_0, fc83_1, fc83_2, fc83_3, fc83_4, fc83_5, fc83_6, fc83_7, fc83_8, fc83_9, fc83_10, fc83_11, fc83_12, fc83_13, fc83_14, fc83_15, fc83_16,
                fc83_17, fc83_18, fc83_19, fc83_20, fc83_21, fc83_22, fc83_23, fc83_24, fc83_25, cast_lit, toNat_lit, Int.reduceAdd, Int.reduceSub, Int.reduceMul, Int.reduceNeg,
                Int.reducePow, Nat.reducePow, Int.reduceToNat, Nat.reduceSub, Nat.mul_one, Int.toNat_zero, prod_eta, List.nil_append, List.cons_append, List.append_nil, Int.le_refl,
                Nat.le_refl, true_implies, take_all, vconv, vmm, vidxA, viaddrA, iaddr_sl, iaddr_lsl, getE, vfield, vlen, fillC, fillE, List.replicate, elemsOf, List.length_map,
                f2iK_eq, bits_i64, bits_i32, bits_u64, bits_u32, bits_u8, e_mov, g_mov, e_pick, g_pick, e_bin, g_bin, e_un, g_un, e_conv, g_conv, e_call, g_call, g_math_NaN,
                dF32_map, dF64_map, dI64_map, dU8_map, dBool_map, dStr_map, decL, dF32, dF64, dI64, dU8, dBool, dStr, ↓b_pick, ePk_true, ePk_false]
      repeat' (first
        | ((first | (refine eGI_of (fun h => ?_) (fun h => ?_)) | (refine eCc_of (fun h => ?_) (fun h => ?_)) | (refine ePk_of (fun h => ?_) (fun h => ?_)) | (have h := True.intro; refine KW_refl ?_) | (have h := True.intro; refine eA_loop ?_)) <;> (try simp only [Bool.not_eq_true', Bool.not_eq_false'] at h) <;> (try simp only [h, reduceCtorEq, Bool.not_eq_true', decide_eq_false_iff_not, Bool.not_true, Bool.not_false, Bool.false_or, Bool.true_or, Bool.true_and, Bool.false_and, Bool.and_eq_true, Bool.or_eq_true, if_true, if_false, reduceIte, Bool.false_eq_true, and_true, true_and, false_or, or_false, decide_eq_true_eq, not_false_eq_true, not_true_eq_false] at hp) <;> (try (have h2 := h; simp only [decide_eq_true_eq, decide_eq_false_iff_not] at h2; (first | (replace h2 := eq_false h2) | (replace h2 := eq_true h2)); simp only [h2, if_true, if_false, false_or, true_or, or_true, or_false, and_true, true_and, not_false_eq_true, not_true_eq_false] at hp)) <;> simp only [h,
          hp, eA_seq, eA_reg, eA_ret, eA_skip, eA_cond, eA_block, eA_exit, eCc_true, eCc_false, Kq_normal, Kq_ret, Kq_exit, Kb_normal, Kb_exit, Kb_ret, Kreg_eq, eI_nil, bindSt_some,
                bindSt_none, bindSt_ite, eR_eq, eGI_tt, eGI_ff, eGI_tf, eGI_ft, eop, vop, ev_t, ev_c, ev_f, Option.map, put_some, put_none, set_eq, setH_eq, get_eq, hp_eq,
                keep_cons, keep_nil, lk_cons, lk_nil, startSt, envOf, reduceIte, Nat.reduceEqDiff, Nat.reduceAdd, Nat.zero_add, Nat.add_zero, Nat.reduceMul, Nat.reduceLT,
                Nat.reduceLeDiff, bop, uop, intop, fltop, convop, true_or, or_true, Bool.false_eq_true, ret_ok, ret_normal, outV, rvV, rvs, ex_some, pureV, pureX, pureX.pure1',
                pure1, Bool.true_and, Bool.false_and, Bool.and_true, Bool.and_false, Option.isNone_none, AV.cells, AV.one, storable, laid, refless, refless1, List.all_cons,
                List.all_nil, List.length_cons, List.length_nil, List.getElem?_cons_zero, List.getElem?_cons_succ, List.set_cons_zero, List.set_cons_succ, List.set_nil,
                List.map_cons, List.map_nil, vload, loadC, storeC, vnil, vfaddr, vextract, callTo, List.mapM_cons, List.mapM_nil, Option.pure_def, Option.bind_eq_bind,
                Option.bind_some, tabOf_cons, flatT, flatE, flatC, and_self, and_true, true_and, implies_true, forall_const, not_true_eq_false, not_false_eq_true, false_implies,
                List.take_succ_cons, List.drop_succ_cons, List.take_zero, List.drop_zero, Bool.not_true, Bool.not_false, beq_self_eq_true, decide_true, decide_false, eq_self,
                Int.reduceEq, Int.reduceLE, Int.reduceLT, Bool.not_not, Bool.true_or, Bool.or_true, Bool.false_or, Bool.or_false, if_true, if_false, List.getElem?_nil, Kl_normal,
                Kl_exit, Kl_ret, fc83_0, fc83_1, fc83_2, fc83_3, fc83_4, fc83_5, fc83_6, fc83_7, fc83_8, fc83_9, fc83_10, fc83_11, fc83_12, fc83_13, fc83_14, fc83_15, fc83_16,
                fc83_17, fc83_18, fc83_19, fc83_20, fc83_21, fc83_22, fc83_23, fc83_24, fc83_25, cast_lit, toNat_lit, Int.reduceAdd, Int.reduceSub, Int.reduceMul, Int.reduceNeg,
                Int.reducePow, Nat.reducePow, Int.reduceToNat, Nat.reduceSub, Nat.mul_one, Int.toNat_zero, prod_eta, List.nil_append, List.cons_append, List.append_nil, Int.le_refl,
                Nat.le_refl, true_implies, take_all, vconv, vmm, vidxA, viaddrA, iaddr_sl, iaddr_lsl, getE, vfield, vlen, fillC, fillE, List.replicate, elemsOf, List.length_map,
                f2iK_eq, bits_i64, bits_i32, bits_u64, bits_u32, bits_u8, e_mov, g_mov, e_pick, g_pick, e_bin, g_bin, e_un, g_un, e_conv, g_conv, e_call, g_call, g_math_NaN,
                dF32_map, dF64_map, dI64_map, dU8_map, dBool_map, dStr_map, decL, dF32, dF64, dI64, dU8, dBool, dStr, ↓b_pick, ePk_true, ePk_false]))
      all_goals (try simp only [*, m_spec_l01SineWide, v_spec_l01SineWide_0, v_spec_l01SineWide_1, v_spec_l01SineWide_2, v_spec_l01SineWide_3, v_spec_l01SineWide_4, v_spec_l01SineWide_5, v_spec_l01SineWide_6, v_spec_l01SineWide_7, v_spec_l01SineWide_8, v_spec_l01SineWide_9, v_spec_l01SineWide_10, v_spec_l01SineWide_11, Bool.and_true, Bool.true_and, Bool.and_false, Bool.false_and, Bool.or_true, Bool.true_or, Bool.or_false, Bool.false_or, Bool.not_true, Bool.not_false, Bool.false_eq_true, if_true, if_false, reduceIte, decide_true, decide_false])
      all_goals (try (simp_all; done))
    · cases h
  · cases h
def m_spec_l02About (x0 : (Nat × Nat × Nat)) (x1 : Nat) : (Nat × Nat × Nat × Nat) := (if (feq .f32 (m_spec_l01Long x0) 0) = true then (m_spec_l02No) else (if (m_spec_l01Finite
      (m_spec_l01Long x0)) = true then ((m_spec_l01Narrow (m_spec_l01SineWide (fadd .f64 (fdiv .f64 (widen x1) 4611686018427387904) 4598175219545276416))), (fmul .f32 (fdiv .f32
      x0.1 (m_spec_l01Long x0)) (m_spec_l01Narrow (m_spec_l01SineWide (fdiv .f64 (widen x1) 4611686018427387904)))), (fmul .f32 (fdiv .f32 x0.2.1 (m_spec_l01Long x0))
      (m_spec_l01Narrow (m_spec_l01SineWide (fdiv .f64 (widen x1) 4611686018427387904)))), (fmul .f32 (fdiv .f32 x0.2.2 (m_spec_l01Long x0)) (m_spec_l01Narrow (m_spec_l01SineWide
      (fdiv .f64 (widen x1) 4611686018427387904))))) else (m_spec_l02No)))
def p_spec_l02About (x0 : (Nat × Nat × Nat)) (x1 : Nat) : Bool := ((p_spec_l01Long x0) && ((feq .f32 (m_spec_l01Long x0) 0) || (!(m_spec_l01Finite (m_spec_l01Long x0)) ||
      ((p_spec_l01SineWide (fdiv .f64 (widen x1) 4611686018427387904)) && ((p_spec_l01Narrow (m_spec_l01SineWide (fdiv .f64 (widen x1) 4611686018427387904))) && ((p_spec_l01SineWide
      (fadd .f64 (fdiv .f64 (widen x1) 4611686018427387904) 4598175219545276416)) && (p_spec_l01Narrow (m_spec_l01SineWide (fadd .f64 (fdiv .f64 (widen x1) 4611686018427387904)
      4598175219545276416)))))))))
def g_spec_l02About : List AV → Option AV
  | [.agg [.flt .f32 y0, .flt .f32 y1, .flt .f32 y2], .flt .f32 y3] => if p_spec_l02About (y0, y1, y2) y3 = true then some (AV.agg [(.flt
      .f32 (m_spec_l02About (y0, y1, y2) y3).1), (.flt .f32 (m_spec_l02About (y0, y1, y2) y3).2.1), (.flt .f32 (m_spec_l02About (y0, y1, y2) y3).2.2.1), (.flt .f32 (m_spec_l02About
      (y0, y1, y2) y3).2.2.2)]) else none
  | _ => none
def ic63 : ICode := (.seq (.reg [⟨(some 2), none, (.box 3 (.t 0))⟩, ⟨(some 4), none, (.alloc (.agg [(.flt .f32 0), (.flt .f32 0), (.flt .f32 0), (.flt .f32 0)]))⟩] [1, 2, 4]) (.seq
      (.reg [⟨(some 9), none, (.load (some 3) (.t 2))⟩, ⟨(some 10), none, (.call (.fn 35) [(.t 9)] [])⟩, ⟨(some 5), none, (.mov (.t 10))⟩] [1, 2, 4, 5]) (.seq (.seq (.reg [⟨(some
      11), none, (.mov (.t 5))⟩, ⟨(some 12), none, (.bin .eql false (.t 11) (.c (.flt .f32 0)))⟩, ⟨(some 13), none, (.mov (.t 12))⟩, ⟨(some 14), (some (13, false)), (.mov (.t 5))⟩,
      ⟨(some 15), (some (13, false)), (.call (.fn 58) [(.t 14)] [])⟩, ⟨(some 16), (some (13, false)), (.un .not (.t 15))⟩, ⟨(some 17), none, (.pick (.t 13) (.c (.bool true)) (.t
      16))⟩] [1, 2, 4, 5, 17]) (.cond (.t 17) (.seq (.reg [⟨(some 18), none, (.call (.fn 82) [] [])⟩, ⟨none, none, (.store 4 (.t 4) (.t 18))⟩] [4]) .ret) .skip)) (.seq (.reg [⟨(some
      19), none, (.mov (.t 1))⟩, ⟨(some 20), none, (.conv (.flt .f64) (.t 19))⟩, ⟨(some 21), none, (.bin .quo false (.t 20) (.c (.flt .f64 4611686018427387904)))⟩, ⟨(some 6), none,
      (.mov (.t 21))⟩] [2, 4, 5, 6]) (.seq (.reg [⟨(some 22), none, (.mov (.t 6))⟩, ⟨(some 23), none, (.call (.fn 83) [(.t 22)] [])⟩, ⟨(some 24), none, (.call (.fn 61) [(.t 23)]
      [])⟩, ⟨(some 7), none, (.mov (.t 24))⟩] [2, 4, 5, 6, 7]) (.seq (.reg [⟨(some 25), none, (.mov (.t 6))⟩, ⟨(some 26), none, (.bin .add false (.t 25) (.c (.flt .f64
      4598175219545276416)))⟩, ⟨(some 27), none, (.call (.fn 83) [(.t 26)] [])⟩, ⟨(some 28), none, (.call (.fn 61) [(.t 27)] [])⟩, ⟨(some 8), none, (.mov (.t 28))⟩] [2, 4, 5, 7, 8])
      (.seq (.reg [⟨(some 29), none, (.mov (.t 8))⟩, ⟨(some 30), none, (.faddr 0 (.t 2))⟩, ⟨(some 31), none, (.load none (.t 30))⟩, ⟨(some 32), none, (.mov (.t 5))⟩, ⟨(some 33),
      none, (.bin .quo false (.t 31) (.t 32))⟩, ⟨(some 34), none, (.mov (.t 7))⟩, ⟨(some 35), none, (.bin .mul false (.t 33) (.t 34))⟩, ⟨(some 36), none, (.faddr 1 (.t 2))⟩, ⟨(some
      37), none, (.load none (.t 36))⟩, ⟨(some 38), none, (.mov (.t 5))⟩, ⟨(some 39), none, (.bin .quo false (.t 37) (.t 38))⟩, ⟨(some 40), none, (.mov (.t 7))⟩, ⟨(some 41), none,
      (.bin .mul false (.t 39) (.t 40))⟩, ⟨(some 42), none, (.faddr 2 (.t 2))⟩, ⟨(some 43), none, (.load none (.t 42))⟩, ⟨(some 44), none, (.mov (.t 5))⟩, ⟨(some 45), none, (.bin
      .quo false (.t 43) (.t 44))⟩, ⟨(some 46), none, (.mov (.t 7))⟩, ⟨(some 47), none, (.bin .mul false (.t 45) (.t 46))⟩, ⟨(some 48), none, (.build [(.flt .f32 0), (.flt .f32 0),
      (.flt .f32 0), (.flt .f32 0)] [(0, 1, (.t 29)), (1, 1, (.t 35)), (2, 1, (.t 41)), (3, 1, (.t 47))])⟩, ⟨none, none, (.store 4 (.t 4) (.t 48))⟩] [4]) .ret)))))))
def cp63 : CP := { n := 49, kp := [[1, 2, 4], [1, 2, 4, 5], [1, 2, 4, 5, 17], [4], [2, 4, 5, 6], [2, 4, 5, 6, 7], [2, 4, 5, 7, 8], [4]] }
theorem fc63_0 : IntKind.wrap .i64 (-1) = (-1) := by decide
theorem fc63_1 : IntKind.wrap .i64 0 = 0 := by decide
theorem fc63_2 : IntKind.wrap .i64 1 = 1 := by decide
theorem fc63_3 : IntKind.wrap .i64 10 = 10 := by decide
theorem fc63_4 : IntKind.wrap .i64 11 = 11 := by decide
theorem fc63_5 : IntKind.wrap .i64 110 = 110 := by decide
theorem fc63_6 : IntKind.wrap .i64 12 = 12 := by decide
theorem fc63_7 : IntKind.wrap .i64 13 = 13 := by decide
theorem fc63_8 : IntKind.wrap .i64 14 = 14 := by decide
theorem fc63_9 : IntKind.wrap .i64 15 = 15 := by decide
theorem fc63_10 : IntKind.wrap .i64 156 = 156 := by decide
theorem fc63_11 : IntKind.wrap .i64 16 = 16 := by decide
theorem fc63_12 : IntKind.wrap .i64 17 = 17 := by decide
theorem fc63_13 : IntKind.wrap .i64 2 = 2 := by decide
theorem fc63_14 : IntKind.wrap .i64 20 = 20 := by decide
theorem fc63_15 : IntKind.wrap .i64 210 = 210 := by decide
theorem fc63_16 : IntKind.wrap .i64 272 = 272 := by decide
theorem fc63_17 : IntKind.wrap .i64 3 = 3 := by decide
theorem fc63_18 : IntKind.wrap .i64 4 = 4 := by decide
theorem fc63_19 : IntKind.wrap .i64 42 = 42 := by decide
theorem fc63_20 : IntKind.wrap .i64 5 = 5 := by decide
theorem fc63_21 : IntKind.wrap .i64 6 = 6 := by decide
theorem fc63_22 : IntKind.wrap .i64 7 = 7 := by decide
theorem fc63_23 : IntKind.wrap .i64 72 = 72 := by decide
theorem fc63_24 : IntKind.wrap .i64 8 = 8 := by decide
theorem fc63_25 : IntKind.wrap .i64 9 = 9 := by decide
end Go.Proofs
