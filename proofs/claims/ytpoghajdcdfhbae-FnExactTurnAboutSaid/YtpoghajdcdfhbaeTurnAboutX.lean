/- What the functions that FnExactTurnAbout reaches compute, and that the program's and the reference's answers are the same. No conditions. -/
import Derived.Test.YtpoghajdcdfhbaeFwE
import Derived.Test.YtpoghajdcdfhbaeProg
import Derived.KernelRfl
set_option maxRecDepth 100000
set_option maxHeartbeats 4000000
set_option linter.all false
namespace Go.Proofs
open Go.Ab
theorem hm : Try.prog.follows .mixedOrders = true := by kernel_rfl
def m_laws_toVector (x0 : (Nat × Nat × Nat)) : (Nat × Nat × Nat) := (x0.1, x0.2.1, x0.2.2)
def g_laws_toVector : List AV → Option AV
  | [.agg [.flt .f32 y0, .flt .f32 y1, .flt .f32 y2]] => some (AV.agg [(.flt .f32 (m_laws_toVector (y0, y1, y2)).1), (.flt .f32
      (m_laws_toVector (y0, y1, y2)).2.1), (.flt .f32 (m_laws_toVector (y0, y1, y2)).2.2)])
  | _ => none
def ic12 : ICode := (.seq (.reg [⟨(some 1), none, (.box 3 (.t 0))⟩, ⟨(some 2), none, (.alloc (.agg [(.flt .f32 0), (.flt .f32 0), (.flt .f32 0)]))⟩] [1, 2]) (.seq (.reg [⟨(some 3),
      none, (.alloc (.agg [(.flt .f32 0), (.flt .f32 0), (.flt .f32 0)]))⟩] [1, 2, 3]) (.seq (.reg [⟨(some 4), none, (.faddr 0 (.t 1))⟩, ⟨(some 5), none, (.load none (.t 4))⟩,
      ⟨(some 6), none, (.faddr 0 (.t 3))⟩, ⟨none, none, (.store 1 (.t 6) (.t 5))⟩] [1, 2, 3]) (.seq (.reg [⟨(some 7), none, (.faddr 1 (.t 1))⟩, ⟨(some 8), none, (.load none (.t
      7))⟩, ⟨(some 9), none, (.faddr 1 (.t 3))⟩, ⟨none, none, (.store 1 (.t 9) (.t 8))⟩] [1, 2, 3]) (.seq (.reg [⟨(some 10), none, (.faddr 2 (.t 1))⟩, ⟨(some 11), none, (.load none
      (.t 10))⟩, ⟨(some 12), none, (.faddr 2 (.t 3))⟩, ⟨none, none, (.store 1 (.t 12) (.t 11))⟩] [2, 3]) (.seq (.reg [⟨(some 13), none, (.load (some 3) (.t 3))⟩, ⟨none, none,
      (.store 3 (.t 2) (.t 13))⟩] [2]) .ret))))))
def cp12 : CP := { n := 14, kp := [[1, 2], [1, 2, 3], [1, 2, 3], [1, 2, 3], [2, 3], [2]] }
theorem fc12_0 : IntKind.wrap .i64 0 = 0 := by decide
theorem fc12_1 : IntKind.wrap .i64 1 = 1 := by decide
theorem fc12_2 : IntKind.wrap .i64 10 = 10 := by decide
theorem fc12_3 : IntKind.wrap .i64 11 = 11 := by decide
theorem fc12_4 : IntKind.wrap .i64 110 = 110 := by decide
theorem fc12_5 : IntKind.wrap .i64 12 = 12 := by decide
theorem fc12_6 : IntKind.wrap .i64 13 = 13 := by decide
theorem fc12_7 : IntKind.wrap .i64 14 = 14 := by decide
theorem fc12_8 : IntKind.wrap .i64 15 = 15 := by decide
theorem fc12_9 : IntKind.wrap .i64 156 = 156 := by decide
theorem fc12_10 : IntKind.wrap .i64 16 = 16 := by decide
theorem fc12_11 : IntKind.wrap .i64 17 = 17 := by decide
theorem fc12_12 : IntKind.wrap .i64 2 = 2 := by decide
theorem fc12_13 : IntKind.wrap .i64 20 = 20 := by decide
theorem fc12_14 : IntKind.wrap .i64 210 = 210 := by decide
theorem fc12_15 : IntKind.wrap .i64 272 = 272 := by decide
theorem fc12_16 : IntKind.wrap .i64 3 = 3 := by decide
theorem fc12_17 : IntKind.wrap .i64 4 = 4 := by decide
theorem fc12_18 : IntKind.wrap .i64 42 = 42 := by decide
theorem fc12_19 : IntKind.wrap .i64 5 = 5 := by decide
theorem fc12_20 : IntKind.wrap .i64 6 = 6 := by decide
theorem fc12_21 : IntKind.wrap .i64 7 = 7 := by decide
theorem fc12_22 : IntKind.wrap .i64 72 = 72 := by decide
theorem fc12_23 : IntKind.wrap .i64 8 = 8 := by decide
theorem fc12_24 : IntKind.wrap .i64 9 = 9 := by decide
theorem s12 : ∀ vs r, g_laws_toVector vs = some r → Says Try.prog 12 vs r := by
  intro vs r h
  unfold g_laws_toVector at h
  split at h
  · rename_i y0 y1 y2
    cases h
    refine spec_of (tab := tabOf []) (cp := cp12) (ic := ic12) (rvl := [(.c 2 (some 3))]) hm tabOk_nil Try.func12 rfl rfl rfl (by kernel_rfl) rfl (Nat.le_of_ble_eq_true rfl) ?_
    show eA _ _ _ _
    unfold ic12
    simp only [
        eA_seq, eA_reg, eA_ret, eA_skip, eA_cond, eA_block, eA_exit, eCc_true, eCc_false, Kq_normal, Kq_ret, Kq_exit, Kb_normal, Kb_exit, Kb_ret, Kreg_eq, eI_nil, bindSt_some,
              bindSt_none, bindSt_ite, eR_eq, eGI_tt, eGI_ff, eGI_tf, eGI_ft, eop, vop, ev_t, ev_c, ev_f, Option.map, put_some, put_none, set_eq, setH_eq, get_eq, hp_eq, keep_cons,
              keep_nil, lk_cons, lk_nil, startSt, envOf, reduceIte, Nat.reduceEqDiff, Nat.reduceAdd, Nat.zero_add, Nat.add_zero, Nat.reduceMul, Nat.reduceLT, Nat.reduceLeDiff, bop,
              uop, intop, fltop, convop, true_or, or_true, Bool.false_eq_true, ret_ok, ret_normal, outV, rvV, rvs, ex_some, pureV, pureX, pureX.pure1', pure1, Bool.true_and,
              Bool.false_and, Bool.and_true, Bool.and_false, Option.isNone_none, AV.cells, AV.one, storable, laid, refless, refless1, List.all_cons, List.all_nil, List.length_cons,
              List.length_nil, List.getElem?_cons_zero, List.getElem?_cons_succ, List.set_cons_zero, List.set_cons_succ, List.set_nil, List.map_cons, List.map_nil, vload, loadC,
              storeC, vnil, vfaddr, vextract, callTo, List.mapM_cons, List.mapM_nil, Option.pure_def, Option.bind_eq_bind, Option.bind_some, tabOf_cons, flatT, flatE, flatC,
              and_self, and_true, true_and, implies_true, forall_const, not_true_eq_false, not_false_eq_true, false_implies, List.take_succ_cons, List.drop_succ_cons,
              List.take_zero, List.drop_zero, Bool.not_true, Bool.not_false, beq_self_eq_true, decide_true, decide_false, eq_self, Int.reduceEq, Int.reduceLE, Int.reduceLT,
              Bool.not_not, Bool.true_or, Bool.or_true, Bool.false_or, Bool.or_false, if_true, if_false, List.getElem?_nil, Kl_normal, Kl_exit, Kl_ret, fc12_0, fc12_1, fc12_2,
              fc12_3, fc12_4, fc12_5, fc12_6, fc12_7, fc12_8, fc12_9, fc12_10, fc12_11, fc12_12, fc12_13, fc12_14, fc12_15, fc12_16, fc12_17, fc12_18, fc12_19, fc12_20, fc12_21,
              fc12_22, fc12_23, fc12_24, cast_lit, toNat_lit, Int.reduceAdd, Int.reduceSub, Int.reduceMul, Int.reduceNeg, Int.reducePow, Nat.reducePow, Int.reduceToNat,
              Nat.reduceSub, Nat.mul_one, Int.toNat_zero, prod_eta, List.nil_append, List.cons_append, List.append_nil, vconv, vmm, vidxA, viaddrA, iaddr_sl, iaddr_lsl, getE,
              vfield, vlen, fillC, fillE, List.replicate, elemsOf, List.length_map, f2iK_eq, bits_i64, bits_i32, bits_u64, bits_u32, bits_u8, e_alloc, g_alloc, e_box, g_box, e_load,
              g_load, e_store, g_store, e_faddr, g_faddr]
    repeat' (first
      | ((first | (refine eGI_of (fun h => ?_) (fun h => ?_)) | (refine eCc_of (fun h => ?_) (fun h => ?_))) <;> (try simp only [Bool.not_eq_true', Bool.not_eq_false'] at h) <;> simp only [h,
        eA_seq, eA_reg, eA_ret, eA_skip, eA_cond, eA_block, eA_exit, eCc_true, eCc_false, Kq_normal, Kq_ret, Kq_exit, Kb_normal, Kb_exit, Kb_ret, Kreg_eq, eI_nil, bindSt_some,
              bindSt_none, bindSt_ite, eR_eq, eGI_tt, eGI_ff, eGI_tf, eGI_ft, eop, vop, ev_t, ev_c, ev_f, Option.map, put_some, put_none, set_eq, setH_eq, get_eq, hp_eq, keep_cons,
              keep_nil, lk_cons, lk_nil, startSt, envOf, reduceIte, Nat.reduceEqDiff, Nat.reduceAdd, Nat.zero_add, Nat.add_zero, Nat.reduceMul, Nat.reduceLT, Nat.reduceLeDiff, bop,
              uop, intop, fltop, convop, true_or, or_true, Bool.false_eq_true, ret_ok, ret_normal, outV, rvV, rvs, ex_some, pureV, pureX, pureX.pure1', pure1, Bool.true_and,
              Bool.false_and, Bool.and_true, Bool.and_false, Option.isNone_none, AV.cells, AV.one, storable, laid, refless, refless1, List.all_cons, List.all_nil, List.length_cons,
              List.length_nil, List.getElem?_cons_zero, List.getElem?_cons_succ, List.set_cons_zero, List.set_cons_succ, List.set_nil, List.map_cons, List.map_nil, vload, loadC,
              storeC, vnil, vfaddr, vextract, callTo, List.mapM_cons, List.mapM_nil, Option.pure_def, Option.bind_eq_bind, Option.bind_some, tabOf_cons, flatT, flatE, flatC,
              and_self, and_true, true_and, implies_true, forall_const, not_true_eq_false, not_false_eq_true, false_implies, List.take_succ_cons, List.drop_succ_cons,
              List.take_zero, List.drop_zero, Bool.not_true, Bool.not_false, beq_self_eq_true, decide_true, decide_false, eq_self, Int.reduceEq, Int.reduceLE, Int.reduceLT,
              Bool.not_not, Bool.true_or, Bool.or_true, Bool.false_or, Bool.or_false, if_true, if_false, List.getElem?_nil, Kl_normal, Kl_exit, Kl_ret, fc12_0, fc12_1, fc12_2,
              fc12_3, fc12_4, fc12_5, fc12_6, fc12_7, fc12_8, fc12_9, fc12_10, fc12_11, fc12_12, fc12_13, fc12_14, fc12_15, fc12_16, fc12_17, fc12_18, fc12_19, fc12_20, fc12_21,
              fc12_22, fc12_23, fc12_24, cast_lit, toNat_lit, Int.reduceAdd, Int.reduceSub, Int.reduceMul, Int.reduceNeg, Int.reducePow, Nat.reducePow, Int.reduceToNat,
              Nat.reduceSub, Nat.mul_one, Int.toNat_zero, prod_eta, List.nil_append, List.cons_append, List.append_nil, vconv, vmm, vidxA, viaddrA, iaddr_sl, iaddr_lsl, getE,
              vfield, vlen, fillC, fillE, List.replicate, elemsOf, List.length_map, f2iK_eq, bits_i64, bits_i32, bits_u64, bits_u32, bits_u8, e_alloc, g_alloc, e_box, g_box, e_load,
              g_load, e_store, g_store, e_faddr, g_faddr]))
    all_goals (try simp only [*, m_laws_toVector, Bool.and_true, Bool.true_and, Bool.and_false, Bool.false_and, Bool.or_true, Bool.true_or, Bool.or_false, Bool.false_or, Bool.not_true, Bool.not_false, Bool.false_eq_true, if_true, if_false, reduceIte, decide_true, decide_false])
    all_goals (try (simp_all; done))
  · cases h
def m_spec_l01Inner (x0 : (Nat × Nat × Nat)) (x1 : (Nat × Nat × Nat)) : Nat := (fadd .f32 (fadd .f32 (fmul .f32 x0.1 x1.1) (fmul .f32 x0.2.1 x1.2.1)) (fmul .f32 x0.2.2 x1.2.2))
def g_spec_l01Inner : List AV → Option AV
  | [.agg [.flt .f32 y0, .flt .f32 y1, .flt .f32 y2], .agg [.flt .f32 y3, .flt .f32 y4, .flt .f32 y5]] => some (.flt .f32 (m_spec_l01Inner
      (y0, y1, y2) (y3, y4, y5)))
  | _ => none
def ic40 : ICode := (.seq (.reg [⟨(some 2), none, (.box 3 (.t 0))⟩, ⟨(some 3), none, (.box 3 (.t 1))⟩, ⟨(some 4), none, (.mov (.c (.flt .f32 0)))⟩] [2, 3]) (.seq (.reg [⟨(some 5),
      none, (.faddr 0 (.t 2))⟩, ⟨(some 6), none, (.load none (.t 5))⟩, ⟨(some 7), none, (.faddr 0 (.t 3))⟩, ⟨(some 8), none, (.load none (.t 7))⟩, ⟨(some 9), none, (.bin .mul false
      (.t 6) (.t 8))⟩, ⟨(some 10), none, (.faddr 1 (.t 2))⟩, ⟨(some 11), none, (.load none (.t 10))⟩, ⟨(some 12), none, (.faddr 1 (.t 3))⟩, ⟨(some 13), none, (.load none (.t 12))⟩,
      ⟨(some 14), none, (.bin .mul false (.t 11) (.t 13))⟩, ⟨(some 15), none, (.bin .add false (.t 9) (.t 14))⟩, ⟨(some 16), none, (.faddr 2 (.t 2))⟩, ⟨(some 17), none, (.load none
      (.t 16))⟩, ⟨(some 18), none, (.faddr 2 (.t 3))⟩, ⟨(some 19), none, (.load none (.t 18))⟩, ⟨(some 20), none, (.bin .mul false (.t 17) (.t 19))⟩, ⟨(some 21), none, (.bin .add
      false (.t 15) (.t 20))⟩, ⟨(some 4), none, (.mov (.t 21))⟩] [4]) .ret))
def cp40 : CP := { n := 22, kp := [[2, 3], [4]] }
theorem fc40_0 : IntKind.wrap .i64 0 = 0 := by decide
theorem fc40_1 : IntKind.wrap .i64 1 = 1 := by decide
theorem fc40_2 : IntKind.wrap .i64 10 = 10 := by decide
theorem fc40_3 : IntKind.wrap .i64 11 = 11 := by decide
theorem fc40_4 : IntKind.wrap .i64 110 = 110 := by decide
theorem fc40_5 : IntKind.wrap .i64 12 = 12 := by decide
theorem fc40_6 : IntKind.wrap .i64 13 = 13 := by decide
theorem fc40_7 : IntKind.wrap .i64 14 = 14 := by decide
theorem fc40_8 : IntKind.wrap .i64 15 = 15 := by decide
theorem fc40_9 : IntKind.wrap .i64 156 = 156 := by decide
theorem fc40_10 : IntKind.wrap .i64 16 = 16 := by decide
theorem fc40_11 : IntKind.wrap .i64 17 = 17 := by decide
theorem fc40_12 : IntKind.wrap .i64 2 = 2 := by decide
theorem fc40_13 : IntKind.wrap .i64 20 = 20 := by decide
theorem fc40_14 : IntKind.wrap .i64 210 = 210 := by decide
theorem fc40_15 : IntKind.wrap .i64 272 = 272 := by decide
theorem fc40_16 : IntKind.wrap .i64 3 = 3 := by decide
theorem fc40_17 : IntKind.wrap .i64 4 = 4 := by decide
theorem fc40_18 : IntKind.wrap .i64 42 = 42 := by decide
theorem fc40_19 : IntKind.wrap .i64 5 = 5 := by decide
theorem fc40_20 : IntKind.wrap .i64 6 = 6 := by decide
theorem fc40_21 : IntKind.wrap .i64 7 = 7 := by decide
theorem fc40_22 : IntKind.wrap .i64 72 = 72 := by decide
theorem fc40_23 : IntKind.wrap .i64 8 = 8 := by decide
theorem fc40_24 : IntKind.wrap .i64 9 = 9 := by decide
theorem s40 : ∀ vs r, g_spec_l01Inner vs = some r → Says Try.prog 40 vs r := by
  intro vs r h
  unfold g_spec_l01Inner at h
  split at h
  · rename_i y0 y1 y2 y3 y4 y5
    cases h
    refine spec_of (tab := tabOf []) (cp := cp40) (ic := ic40) (rvl := [(.t 4)]) hm tabOk_nil Try.func40 rfl rfl rfl (by kernel_rfl) rfl (Nat.le_of_ble_eq_true rfl) ?_
    show eA _ _ _ _
    unfold ic40
    simp only [
        eA_seq, eA_reg, eA_ret, eA_skip, eA_cond, eA_block, eA_exit, eCc_true, eCc_false, Kq_normal, Kq_ret, Kq_exit, Kb_normal, Kb_exit, Kb_ret, Kreg_eq, eI_nil, bindSt_some,
              bindSt_none, bindSt_ite, eR_eq, eGI_tt, eGI_ff, eGI_tf, eGI_ft, eop, vop, ev_t, ev_c, ev_f, Option.map, put_some, put_none, set_eq, setH_eq, get_eq, hp_eq, keep_cons,
              keep_nil, lk_cons, lk_nil, startSt, envOf, reduceIte, Nat.reduceEqDiff, Nat.reduceAdd, Nat.zero_add, Nat.add_zero, Nat.reduceMul, Nat.reduceLT, Nat.reduceLeDiff, bop,
              uop, intop, fltop, convop, true_or, or_true, Bool.false_eq_true, ret_ok, ret_normal, outV, rvV, rvs, ex_some, pureV, pureX, pureX.pure1', pure1, Bool.true_and,
              Bool.false_and, Bool.and_true, Bool.and_false, Option.isNone_none, AV.cells, AV.one, storable, laid, refless, refless1, List.all_cons, List.all_nil, List.length_cons,
              List.length_nil, List.getElem?_cons_zero, List.getElem?_cons_succ, List.set_cons_zero, List.set_cons_succ, List.set_nil, List.map_cons, List.map_nil, vload, loadC,
              storeC, vnil, vfaddr, vextract, callTo, List.mapM_cons, List.mapM_nil, Option.pure_def, Option.bind_eq_bind, Option.bind_some, tabOf_cons, flatT, flatE, flatC,
              and_self, and_true, true_and, implies_true, forall_const, not_true_eq_false, not_false_eq_true, false_implies, List.take_succ_cons, List.drop_succ_cons,
              List.take_zero, List.drop_zero, Bool.not_true, Bool.not_false, beq_self_eq_true, decide_true, decide_false, eq_self, Int.reduceEq, Int.reduceLE, Int.reduceLT,
              Bool.not_not, Bool.true_or, Bool.or_true, Bool.false_or, Bool.or_false, if_true, if_false, List.getElem?_nil, Kl_normal, Kl_exit, Kl_ret, fc40_0, fc40_1, fc40_2,
              fc40_3, fc40_4, fc40_5, fc40_6, fc40_7, fc40_8, fc40_9, fc40_10, fc40_11, fc40_12, fc40_13, fc40_14, fc40_15, fc40_16, fc40_17, fc40_18, fc40_19, fc40_20, fc40_21,
              fc40_22, fc40_23, fc40_24, cast_lit, toNat_lit, Int.reduceAdd, Int.reduceSub, Int.reduceMul, Int.reduceNeg, Int.reducePow, Nat.reducePow, Int.reduceToNat,
              Nat.reduceSub, Nat.mul_one, Int.toNat_zero, prod_eta, List.nil_append, List.cons_append, List.append_nil, vconv, vmm, vidxA, viaddrA, iaddr_sl, iaddr_lsl, getE,
              vfield, vlen, fillC, fillE, List.replicate, elemsOf, List.length_map, f2iK_eq, bits_i64, bits_i32, bits_u64, bits_u32, bits_u8, e_mov, g_mov, e_box, g_box, e_load,
              g_load, e_bin, g_bin, e_faddr, g_faddr]
    repeat' (first
      | ((first | (refine eGI_of (fun h => ?_) (fun h => ?_)) | (refine eCc_of (fun h => ?_) (fun h => ?_))) <;> (try simp only [Bool.not_eq_true', Bool.not_eq_false'] at h) <;> simp only [h,
        eA_seq, eA_reg, eA_ret, eA_skip, eA_cond, eA_block, eA_exit, eCc_true, eCc_false, Kq_normal, Kq_ret, Kq_exit, Kb_normal, Kb_exit, Kb_ret, Kreg_eq, eI_nil, bindSt_some,
              bindSt_none, bindSt_ite, eR_eq, eGI_tt, eGI_ff, eGI_tf, eGI_ft, eop, vop, ev_t, ev_c, ev_f, Option.map, put_some, put_none, set_eq, setH_eq, get_eq, hp_eq, keep_cons,
              keep_nil, lk_cons, lk_nil, startSt, envOf, reduceIte, Nat.reduceEqDiff, Nat.reduceAdd, Nat.zero_add, Nat.add_zero, Nat.reduceMul, Nat.reduceLT, Nat.reduceLeDiff, bop,
              uop, intop, fltop, convop, true_or, or_true, Bool.false_eq_true, ret_ok, ret_normal, outV, rvV, rvs, ex_some, pureV, pureX, pureX.pure1', pure1, Bool.true_and,
              Bool.false_and, Bool.and_true, Bool.and_false, Option.isNone_none, AV.cells, AV.one, storable, laid, refless, refless1, List.all_cons, List.all_nil, List.length_cons,
              List.length_nil, List.getElem?_cons_zero, List.getElem?_cons_succ, List.set_cons_zero, List.set_cons_succ, List.set_nil, List.map_cons, List.map_nil, vload, loadC,
              storeC, vnil, vfaddr, vextract, callTo, List.mapM_cons, List.mapM_nil, Option.pure_def, Option.bind_eq_bind, Option.bind_some, tabOf_cons, flatT, flatE, flatC,
              and_self, and_true, true_and, implies_true, forall_const, not_true_eq_false, not_false_eq_true, false_implies, List.take_succ_cons, List.drop_succ_cons,
              List.take_zero, List.drop_zero, Bool.not_true, Bool.not_false, beq_self_eq_true, decide_true, decide_false, eq_self, Int.reduceEq, Int.reduceLE, Int.reduceLT,
              Bool.not_not, Bool.true_or, Bool.or_true, Bool.false_or, Bool.or_false, if_true, if_false, List.getElem?_nil, Kl_normal, Kl_exit, Kl_ret, fc40_0, fc40_1, fc40_2,
              fc40_3, fc40_4, fc40_5, fc40_6, fc40_7, fc40_8, fc40_9, fc40_10, fc40_11, fc40_12, fc40_13, fc40_14, fc40_15, fc40_16, fc40_17, fc40_18, fc40_19, fc40_20, fc40_21,
              fc40_22, fc40_23, fc40_24, cast_lit, toNat_lit, Int.reduceAdd, Int.reduceSub, Int.reduceMul, Int.reduceNeg, Int.reducePow, Nat.reducePow, Int.reduceToNat,
              Nat.reduceSub, Nat.mul_one, Int.toNat_zero, prod_eta, List.nil_append, List.cons_append, List.append_nil, vconv, vmm, vidxA, viaddrA, iaddr_sl, iaddr_lsl, getE,
              vfield, vlen, fillC, fillE, List.replicate, elemsOf, List.length_map, f2iK_eq, bits_i64, bits_i32, bits_u64, bits_u32, bits_u8, e_mov, g_mov, e_box, g_box, e_load,
              g_load, e_bin, g_bin, e_faddr, g_faddr]))
    all_goals (try simp only [*, m_spec_l01Inner, Bool.and_true, Bool.true_and, Bool.and_false, Bool.false_and, Bool.or_true, Bool.true_or, Bool.or_false, Bool.false_or, Bool.not_true, Bool.not_false, Bool.false_eq_true, if_true, if_false, reduceIte, decide_true, decide_false])
    all_goals (try (simp_all; done))
  · cases h
theorem s72 : ∀ vs r, g_sqrt vs = some r → Says Try.prog 72 vs r := t_sqrt Try.func72 (by kernel_rfl) rfl (by kernel_rfl) (by kernel_rfl)
def m_math_Sqrt (x0 : Nat) : Nat := (fsqrt x0)
def g_math_Sqrt : List AV → Option AV
  | [.flt .f64 y0] => some (.flt .f64 (m_math_Sqrt y0))
  | _ => none
def ic53 : ICode := (.seq (.reg [⟨(some 2), none, (.mov (.c (.flt .f64 0)))⟩] [0]) (.seq (.reg [⟨(some 3), none, (.mov (.t 0))⟩, ⟨(some 4), none, (.call (.fn 72) [(.t 3)] [])⟩,
      ⟨(some 2), none, (.mov (.t 4))⟩] [2]) .ret))
def cp53 : CP := { n := 5, kp := [[0], [2]] }
theorem fc53_0 : IntKind.wrap .i64 0 = 0 := by decide
theorem fc53_1 : IntKind.wrap .i64 1 = 1 := by decide
theorem fc53_2 : IntKind.wrap .i64 10 = 10 := by decide
theorem fc53_3 : IntKind.wrap .i64 11 = 11 := by decide
theorem fc53_4 : IntKind.wrap .i64 110 = 110 := by decide
theorem fc53_5 : IntKind.wrap .i64 12 = 12 := by decide
theorem fc53_6 : IntKind.wrap .i64 13 = 13 := by decide
theorem fc53_7 : IntKind.wrap .i64 14 = 14 := by decide
theorem fc53_8 : IntKind.wrap .i64 15 = 15 := by decide
theorem fc53_9 : IntKind.wrap .i64 156 = 156 := by decide
theorem fc53_10 : IntKind.wrap .i64 16 = 16 := by decide
theorem fc53_11 : IntKind.wrap .i64 17 = 17 := by decide
theorem fc53_12 : IntKind.wrap .i64 2 = 2 := by decide
theorem fc53_13 : IntKind.wrap .i64 20 = 20 := by decide
theorem fc53_14 : IntKind.wrap .i64 210 = 210 := by decide
theorem fc53_15 : IntKind.wrap .i64 272 = 272 := by decide
theorem fc53_16 : IntKind.wrap .i64 3 = 3 := by decide
theorem fc53_17 : IntKind.wrap .i64 4 = 4 := by decide
theorem fc53_18 : IntKind.wrap .i64 42 = 42 := by decide
theorem fc53_19 : IntKind.wrap .i64 5 = 5 := by decide
theorem fc53_20 : IntKind.wrap .i64 6 = 6 := by decide
theorem fc53_21 : IntKind.wrap .i64 7 = 7 := by decide
theorem fc53_22 : IntKind.wrap .i64 72 = 72 := by decide
theorem fc53_23 : IntKind.wrap .i64 8 = 8 := by decide
theorem fc53_24 : IntKind.wrap .i64 9 = 9 := by decide
theorem s53 : ∀ vs r, g_math_Sqrt vs = some r → Says Try.prog 53 vs r := by
  intro vs r h
  unfold g_math_Sqrt at h
  split at h
  · rename_i y0
    cases h
    refine spec_of (tab := tabOf [(72, g_sqrt)]) (cp := cp53) (ic := ic53) (rvl := [(.t 2)]) hm (tabOk_cons s72 tabOk_nil) Try.func53 rfl rfl rfl (by kernel_rfl) rfl (Nat.le_of_ble_eq_true rfl) ?_
    show eA _ _ _ _
    unfold ic53
    simp only [
        eA_seq, eA_reg, eA_ret, eA_skip, eA_cond, eA_block, eA_exit, eCc_true, eCc_false, Kq_normal, Kq_ret, Kq_exit, Kb_normal, Kb_exit, Kb_ret, Kreg_eq, eI_nil, bindSt_some,
              bindSt_none, bindSt_ite, eR_eq, eGI_tt, eGI_ff, eGI_tf, eGI_ft, eop, vop, ev_t, ev_c, ev_f, Option.map, put_some, put_none, set_eq, setH_eq, get_eq, hp_eq, keep_cons,
              keep_nil, lk_cons, lk_nil, startSt, envOf, reduceIte, Nat.reduceEqDiff, Nat.reduceAdd, Nat.zero_add, Nat.add_zero, Nat.reduceMul, Nat.reduceLT, Nat.reduceLeDiff, bop,
              uop, intop, fltop, convop, true_or, or_true, Bool.false_eq_true, ret_ok, ret_normal, outV, rvV, rvs, ex_some, pureV, pureX, pureX.pure1', pure1, Bool.true_and,
              Bool.false_and, Bool.and_true, Bool.and_false, Option.isNone_none, AV.cells, AV.one, storable, laid, refless, refless1, List.all_cons, List.all_nil, List.length_cons,
              List.length_nil, List.getElem?_cons_zero, List.getElem?_cons_succ, List.set_cons_zero, List.set_cons_succ, List.set_nil, List.map_cons, List.map_nil, vload, loadC,
              storeC, vnil, vfaddr, vextract, callTo, List.mapM_cons, List.mapM_nil, Option.pure_def, Option.bind_eq_bind, Option.bind_some, tabOf_cons, flatT, flatE, flatC,
              and_self, and_true, true_and, implies_true, forall_const, not_true_eq_false, not_false_eq_true, false_implies, List.take_succ_cons, List.drop_succ_cons,
              List.take_zero, List.drop_zero, Bool.not_true, Bool.not_false, beq_self_eq_true, decide_true, decide_false, eq_self, Int.reduceEq, Int.reduceLE, Int.reduceLT,
              Bool.not_not, Bool.true_or, Bool.or_true, Bool.false_or, Bool.or_false, if_true, if_false, List.getElem?_nil, Kl_normal, Kl_exit, Kl_ret, fc53_0, fc53_1, fc53_2,
              fc53_3, fc53_4, fc53_5, fc53_6, fc53_7, fc53_8, fc53_9, fc53_10, fc53_11, fc53_12, fc53_13, fc53_14, fc53_15, fc53_16, fc53_17, fc53_18, fc53_19, fc53_20, fc53_21,
              fc53_22, fc53_23, fc53_24, cast_lit, toNat_lit, Int.reduceAdd, Int.reduceSub, Int.reduceMul, Int.reduceNeg, Int.reducePow, Nat.reducePow, Int.reduceToNat,
              Nat.reduceSub, Nat.mul_one, Int.toNat_zero, prod_eta, List.nil_append, List.cons_append, List.append_nil, vconv, vmm, vidxA, viaddrA, iaddr_sl, iaddr_lsl, getE,
              vfield, vlen, fillC, fillE, List.replicate, elemsOf, List.length_map, f2iK_eq, bits_i64, bits_i32, bits_u64, bits_u32, bits_u8, e_mov, g_mov, e_call, g_call, g_sqrt]
    repeat' (first
      | ((first | (refine eGI_of (fun h => ?_) (fun h => ?_)) | (refine eCc_of (fun h => ?_) (fun h => ?_))) <;> (try simp only [Bool.not_eq_true', Bool.not_eq_false'] at h) <;> simp only [h,
        eA_seq, eA_reg, eA_ret, eA_skip, eA_cond, eA_block, eA_exit, eCc_true, eCc_false, Kq_normal, Kq_ret, Kq_exit, Kb_normal, Kb_exit, Kb_ret, Kreg_eq, eI_nil, bindSt_some,
              bindSt_none, bindSt_ite, eR_eq, eGI_tt, eGI_ff, eGI_tf, eGI_ft, eop, vop, ev_t, ev_c, ev_f, Option.map, put_some, put_none, set_eq, setH_eq, get_eq, hp_eq, keep_cons,
              keep_nil, lk_cons, lk_nil, startSt, envOf, reduceIte, Nat.reduceEqDiff, Nat.reduceAdd, Nat.zero_add, Nat.add_zero, Nat.reduceMul, Nat.reduceLT, Nat.reduceLeDiff, bop,
              uop, intop, fltop, convop, true_or, or_true, Bool.false_eq_true, ret_ok, ret_normal, outV, rvV, rvs, ex_some, pureV, pureX, pureX.pure1', pure1, Bool.true_and,
              Bool.false_and, Bool.and_true, Bool.and_false, Option.isNone_none, AV.cells, AV.one, storable, laid, refless, refless1, List.all_cons, List.all_nil, List.length_cons,
              List.length_nil, List.getElem?_cons_zero, List.getElem?_cons_succ, List.set_cons_zero, List.set_cons_succ, List.set_nil, List.map_cons, List.map_nil, vload, loadC,
              storeC, vnil, vfaddr, vextract, callTo, List.mapM_cons, List.mapM_nil, Option.pure_def, Option.bind_eq_bind, Option.bind_some, tabOf_cons, flatT, flatE, flatC,
              and_self, and_true, true_and, implies_true, forall_const, not_true_eq_false, not_false_eq_true, false_implies, List.take_succ_cons, List.drop_succ_cons,
              List.take_zero, List.drop_zero, Bool.not_true, Bool.not_false, beq_self_eq_true, decide_true, decide_false, eq_self, Int.reduceEq, Int.reduceLE, Int.reduceLT,
              Bool.not_not, Bool.true_or, Bool.or_true, Bool.false_or, Bool.or_false, if_true, if_false, List.getElem?_nil, Kl_normal, Kl_exit, Kl_ret, fc53_0, fc53_1, fc53_2,
              fc53_3, fc53_4, fc53_5, fc53_6, fc53_7, fc53_8, fc53_9, fc53_10, fc53_11, fc53_12, fc53_13, fc53_14, fc53_15, fc53_16, fc53_17, fc53_18, fc53_19, fc53_20, fc53_21,
              fc53_22, fc53_23, fc53_24, cast_lit, toNat_lit, Int.reduceAdd, Int.reduceSub, Int.reduceMul, Int.reduceNeg, Int.reducePow, Nat.reducePow, Int.reduceToNat,
              Nat.reduceSub, Nat.mul_one, Int.toNat_zero, prod_eta, List.nil_append, List.cons_append, List.append_nil, vconv, vmm, vidxA, viaddrA, iaddr_sl, iaddr_lsl, getE,
              vfield, vlen, fillC, fillE, List.replicate, elemsOf, List.length_map, f2iK_eq, bits_i64, bits_i32, bits_u64, bits_u32, bits_u8, e_mov, g_mov, e_call, g_call, g_sqrt]))
    all_goals (try simp only [*, m_math_Sqrt, Bool.and_true, Bool.true_and, Bool.and_false, Bool.false_and, Bool.or_true, Bool.true_or, Bool.or_false, Bool.false_or, Bool.not_true, Bool.not_false, Bool.false_eq_true, if_true, if_false, reduceIte, decide_true, decide_false])
    all_goals (try (simp_all; done))
  · cases h
def m_spec_l01Narrow (x0 : Nat) : Nat := (narrow x0)
def p_spec_l01Narrow (x0 : Nat) : Bool := (narrowOk x0)
def g_spec_l01Narrow : List AV → Option AV
  | [.flt .f64 y0] => if p_spec_l01Narrow y0 = true then some (.flt .f32 (m_spec_l01Narrow y0)) else none
  | _ => none
def ic61 : ICode := (.seq (.reg [⟨(some 2), none, (.mov (.c (.flt .f32 0)))⟩] [0]) (.seq (.reg [⟨(some 3), none, (.mov (.t 0))⟩, ⟨(some 4), none, (.conv (.flt .f32) (.t 3))⟩, ⟨(some
      2), none, (.mov (.t 4))⟩] [2]) .ret))
def cp61 : CP := { n := 5, kp := [[0], [2]] }
theorem fc61_0 : IntKind.wrap .i64 0 = 0 := by decide
theorem fc61_1 : IntKind.wrap .i64 1 = 1 := by decide
theorem fc61_2 : IntKind.wrap .i64 10 = 10 := by decide
theorem fc61_3 : IntKind.wrap .i64 11 = 11 := by decide
theorem fc61_4 : IntKind.wrap .i64 110 = 110 := by decide
theorem fc61_5 : IntKind.wrap .i64 12 = 12 := by decide
theorem fc61_6 : IntKind.wrap .i64 13 = 13 := by decide
theorem fc61_7 : IntKind.wrap .i64 14 = 14 := by decide
theorem fc61_8 : IntKind.wrap .i64 15 = 15 := by decide
theorem fc61_9 : IntKind.wrap .i64 156 = 156 := by decide
theorem fc61_10 : IntKind.wrap .i64 16 = 16 := by decide
theorem fc61_11 : IntKind.wrap .i64 17 = 17 := by decide
theorem fc61_12 : IntKind.wrap .i64 2 = 2 := by decide
theorem fc61_13 : IntKind.wrap .i64 20 = 20 := by decide
theorem fc61_14 : IntKind.wrap .i64 210 = 210 := by decide
theorem fc61_15 : IntKind.wrap .i64 272 = 272 := by decide
theorem fc61_16 : IntKind.wrap .i64 3 = 3 := by decide
theorem fc61_17 : IntKind.wrap .i64 4 = 4 := by decide
theorem fc61_18 : IntKind.wrap .i64 42 = 42 := by decide
theorem fc61_19 : IntKind.wrap .i64 5 = 5 := by decide
theorem fc61_20 : IntKind.wrap .i64 6 = 6 := by decide
theorem fc61_21 : IntKind.wrap .i64 7 = 7 := by decide
theorem fc61_22 : IntKind.wrap .i64 72 = 72 := by decide
theorem fc61_23 : IntKind.wrap .i64 8 = 8 := by decide
theorem fc61_24 : IntKind.wrap .i64 9 = 9 := by decide
theorem s61 : ∀ vs r, g_spec_l01Narrow vs = some r → Says Try.prog 61 vs r := by
  intro vs r h
  unfold g_spec_l01Narrow at h
  split at h
  · rename_i y0
    split at h
    · rename_i hp
      cases h
      refine spec_of (tab := tabOf []) (cp := cp61) (ic := ic61) (rvl := [(.t 2)]) hm tabOk_nil Try.func61 rfl rfl rfl (by kernel_rfl) rfl (Nat.le_of_ble_eq_true rfl) ?_
      show eA _ _ _ _
      unfold ic61
      simp only [p_spec_l01Narrow, Bool.and_eq_true, Bool.or_eq_true, decide_eq_true_eq, Bool.not_eq_true', decide_eq_false_iff_not] at hp
      simp only [
          hp, eA_seq, eA_reg, eA_ret, eA_skip, eA_cond, eA_block, eA_exit, eCc_true, eCc_false, Kq_normal, Kq_ret, Kq_exit, Kb_normal, Kb_exit, Kb_ret, Kreg_eq, eI_nil, bindSt_some,
                bindSt_none, bindSt_ite, eR_eq, eGI_tt, eGI_ff, eGI_tf, eGI_ft, eop, vop, ev_t, ev_c, ev_f, Option.map, put_some, put_none, set_eq, setH_eq, get_eq, hp_eq,
                keep_cons, keep_nil, lk_cons, lk_nil, startSt, envOf, reduceIte, Nat.reduceEqDiff, Nat.reduceAdd, Nat.zero_add, Nat.add_zero, Nat.reduceMul, Nat.reduceLT,
                Nat.reduceLeDiff, bop, uop, intop, fltop, convop, true_or, or_true, Bool.false_eq_true, ret_ok, ret_normal, outV, rvV, rvs, ex_some, pureV, pureX, pureX.pure1',
                pure1, Bool.true_and, Bool.false_and, Bool.and_true, Bool.and_false, Option.isNone_none, AV.cells, AV.one, storable, laid, refless, refless1, List.all_cons,
                List.all_nil, List.length_cons, List.length_nil, List.getElem?_cons_zero, List.getElem?_cons_succ, List.set_cons_zero, List.set_cons_succ, List.set_nil,
                List.map_cons, List.map_nil, vload, loadC, storeC, vnil, vfaddr, vextract, callTo, List.mapM_cons, List.mapM_nil, Option.pure_def, Option.bind_eq_bind,
                Option.bind_some, tabOf_cons, flatT, flatE, flatC, and_self, and_true, true_and, implies_true, forall_const, not_true_eq_false, not_false_eq_true, false_implies,
                List.take_succ_cons, List.drop_succ_cons, List.take_zero, List.drop_zero, Bool.not_true, Bool.not_false, beq_self_eq_true, decide_true, decide_false, eq_self,
                Int.reduceEq, Int.reduceLE, Int.reduceLT, Bool.not_not, Bool.true_or, Bool.or_true, Bool.false_or, Bool.or_false, if_true, if_false, List.getElem?_nil, Kl_normal,
                Kl_exit, Kl_ret, fc61_0, fc61_1, fc61_2, fc61_3, fc61_4, fc61_5, fc61_6, fc61_7, fc61_8, fc61_9, fc61_10, fc61_11, fc61_12, fc61_13, fc61_14, fc61_15, fc61_16,
                fc61_17, fc61_18, fc61_19, fc61_20, fc61_21, fc61_22, fc61_23, fc61_24, cast_lit, toNat_lit, Int.reduceAdd, Int.reduceSub, Int.reduceMul, Int.reduceNeg,
                Int.reducePow, Nat.reducePow, Int.reduceToNat, Nat.reduceSub, Nat.mul_one, Int.toNat_zero, prod_eta, List.nil_append, List.cons_append, List.append_nil, vconv, vmm,
                vidxA, viaddrA, iaddr_sl, iaddr_lsl, getE, vfield, vlen, fillC, fillE, List.replicate, elemsOf, List.length_map, f2iK_eq, bits_i64, bits_i32, bits_u64, bits_u32,
                bits_u8, e_mov, g_mov, e_conv, g_conv]
      repeat' (first
        | ((first | (refine eGI_of (fun h => ?_) (fun h => ?_)) | (refine eCc_of (fun h => ?_) (fun h => ?_))) <;> (try simp only [Bool.not_eq_true', Bool.not_eq_false'] at h) <;> (try simp only [h, reduceCtorEq, Bool.not_eq_true', decide_eq_false_iff_not, Bool.not_true, Bool.not_false, Bool.false_or, Bool.true_or, Bool.true_and, Bool.false_and, Bool.and_eq_true, Bool.or_eq_true, if_true, if_false, reduceIte, Bool.false_eq_true, and_true, true_and, false_or, or_false, decide_eq_true_eq, not_false_eq_true, not_true_eq_false] at hp) <;> (try (have h2 := h; simp only [decide_eq_true_eq, decide_eq_false_iff_not] at h2; simp only [h2, if_true, if_false, false_or, true_or, or_true, or_false, and_true, true_and, not_false_eq_true, not_true_eq_false] at hp)) <;> simp only [h,
          hp, eA_seq, eA_reg, eA_ret, eA_skip, eA_cond, eA_block, eA_exit, eCc_true, eCc_false, Kq_normal, Kq_ret, Kq_exit, Kb_normal, Kb_exit, Kb_ret, Kreg_eq, eI_nil, bindSt_some,
                bindSt_none, bindSt_ite, eR_eq, eGI_tt, eGI_ff, eGI_tf, eGI_ft, eop, vop, ev_t, ev_c, ev_f, Option.map, put_some, put_none, set_eq, setH_eq, get_eq, hp_eq,
                keep_cons, keep_nil, lk_cons, lk_nil, startSt, envOf, reduceIte, Nat.reduceEqDiff, Nat.reduceAdd, Nat.zero_add, Nat.add_zero, Nat.reduceMul, Nat.reduceLT,
                Nat.reduceLeDiff, bop, uop, intop, fltop, convop, true_or, or_true, Bool.false_eq_true, ret_ok, ret_normal, outV, rvV, rvs, ex_some, pureV, pureX, pureX.pure1',
                pure1, Bool.true_and, Bool.false_and, Bool.and_true, Bool.and_false, Option.isNone_none, AV.cells, AV.one, storable, laid, refless, refless1, List.all_cons,
                List.all_nil, List.length_cons, List.length_nil, List.getElem?_cons_zero, List.getElem?_cons_succ, List.set_cons_zero, List.set_cons_succ, List.set_nil,
                List.map_cons, List.map_nil, vload, loadC, storeC, vnil, vfaddr, vextract, callTo, List.mapM_cons, List.mapM_nil, Option.pure_def, Option.bind_eq_bind,
                Option.bind_some, tabOf_cons, flatT, flatE, flatC, and_self, and_true, true_and, implies_true, forall_const, not_true_eq_false, not_false_eq_true, false_implies,
                List.take_succ_cons, List.drop_succ_cons, List.take_zero, List.drop_zero, Bool.not_true, Bool.not_false, beq_self_eq_true, decide_true, decide_false, eq_self,
                Int.reduceEq, Int.reduceLE, Int.reduceLT, Bool.not_not, Bool.true_or, Bool.or_true, Bool.false_or, Bool.or_false, if_true, if_false, List.getElem?_nil, Kl_normal,
                Kl_exit, Kl_ret, fc61_0, fc61_1, fc61_2, fc61_3, fc61_4, fc61_5, fc61_6, fc61_7, fc61_8, fc61_9, fc61_10, fc61_11, fc61_12, fc61_13, fc61_14, fc61_15, fc61_16,
                fc61_17, fc61_18, fc61_19, fc61_20, fc61_21, fc61_22, fc61_23, fc61_24, cast_lit, toNat_lit, Int.reduceAdd, Int.reduceSub, Int.reduceMul, Int.reduceNeg,
                Int.reducePow, Nat.reducePow, Int.reduceToNat, Nat.reduceSub, Nat.mul_one, Int.toNat_zero, prod_eta, List.nil_append, List.cons_append, List.append_nil, vconv, vmm,
                vidxA, viaddrA, iaddr_sl, iaddr_lsl, getE, vfield, vlen, fillC, fillE, List.replicate, elemsOf, List.length_map, f2iK_eq, bits_i64, bits_i32, bits_u64, bits_u32,
                bits_u8, e_mov, g_mov, e_conv, g_conv]))
      all_goals (try simp only [*, m_spec_l01Narrow, Bool.and_true, Bool.true_and, Bool.and_false, Bool.false_and, Bool.or_true, Bool.true_or, Bool.or_false, Bool.false_or, Bool.not_true, Bool.not_false, Bool.false_eq_true, if_true, if_false, reduceIte, decide_true, decide_false])
      all_goals (try (simp_all; done))
    · cases h
  · cases h
def m_spec_l01Sqrt (x0 : Nat) : Nat := (m_spec_l01Narrow (m_math_Sqrt (widen x0)))
def p_spec_l01Sqrt (x0 : Nat) : Bool := (p_spec_l01Narrow (m_math_Sqrt (widen x0)))
def g_spec_l01Sqrt : List AV → Option AV
  | [.flt .f32 y0] => if p_spec_l01Sqrt y0 = true then some (.flt .f32 (m_spec_l01Sqrt y0)) else none
  | _ => none
def ic37 : ICode := (.seq (.reg [⟨(some 2), none, (.mov (.c (.flt .f32 0)))⟩] [0]) (.seq (.reg [⟨(some 3), none, (.mov (.t 0))⟩, ⟨(some 4), none, (.conv (.flt .f64) (.t 3))⟩, ⟨(some
      5), none, (.call (.fn 53) [(.t 4)] [])⟩, ⟨(some 6), none, (.call (.fn 61) [(.t 5)] [])⟩, ⟨(some 2), none, (.mov (.t 6))⟩] [2]) .ret))
def cp37 : CP := { n := 7, kp := [[0], [2]] }
theorem fc37_0 : IntKind.wrap .i64 0 = 0 := by decide
theorem fc37_1 : IntKind.wrap .i64 1 = 1 := by decide
theorem fc37_2 : IntKind.wrap .i64 10 = 10 := by decide
theorem fc37_3 : IntKind.wrap .i64 11 = 11 := by decide
theorem fc37_4 : IntKind.wrap .i64 110 = 110 := by decide
theorem fc37_5 : IntKind.wrap .i64 12 = 12 := by decide
theorem fc37_6 : IntKind.wrap .i64 13 = 13 := by decide
theorem fc37_7 : IntKind.wrap .i64 14 = 14 := by decide
theorem fc37_8 : IntKind.wrap .i64 15 = 15 := by decide
theorem fc37_9 : IntKind.wrap .i64 156 = 156 := by decide
theorem fc37_10 : IntKind.wrap .i64 16 = 16 := by decide
theorem fc37_11 : IntKind.wrap .i64 17 = 17 := by decide
theorem fc37_12 : IntKind.wrap .i64 2 = 2 := by decide
theorem fc37_13 : IntKind.wrap .i64 20 = 20 := by decide
theorem fc37_14 : IntKind.wrap .i64 210 = 210 := by decide
theorem fc37_15 : IntKind.wrap .i64 272 = 272 := by decide
theorem fc37_16 : IntKind.wrap .i64 3 = 3 := by decide
theorem fc37_17 : IntKind.wrap .i64 4 = 4 := by decide
theorem fc37_18 : IntKind.wrap .i64 42 = 42 := by decide
theorem fc37_19 : IntKind.wrap .i64 5 = 5 := by decide
theorem fc37_20 : IntKind.wrap .i64 6 = 6 := by decide
theorem fc37_21 : IntKind.wrap .i64 7 = 7 := by decide
theorem fc37_22 : IntKind.wrap .i64 72 = 72 := by decide
theorem fc37_23 : IntKind.wrap .i64 8 = 8 := by decide
theorem fc37_24 : IntKind.wrap .i64 9 = 9 := by decide
theorem s37 : ∀ vs r, g_spec_l01Sqrt vs = some r → Says Try.prog 37 vs r := by
  intro vs r h
  unfold g_spec_l01Sqrt at h
  split at h
  · rename_i y0
    split at h
    · rename_i hp
      cases h
      refine spec_of (tab := tabOf [(53, g_math_Sqrt), (61, g_spec_l01Narrow)]) (cp := cp37) (ic := ic37) (rvl := [(.t 2)]) hm (tabOk_cons s53 (tabOk_cons s61 tabOk_nil)) Try.func37 rfl rfl rfl (by kernel_rfl) rfl (Nat.le_of_ble_eq_true rfl) ?_
      show eA _ _ _ _
      unfold ic37
      simp only [p_spec_l01Sqrt, Bool.and_eq_true, Bool.or_eq_true, decide_eq_true_eq, Bool.not_eq_true', decide_eq_false_iff_not] at hp
      simp only [
          hp, eA_seq, eA_reg, eA_ret, eA_skip, eA_cond, eA_block, eA_exit, eCc_true, eCc_false, Kq_normal, Kq_ret, Kq_exit, Kb_normal, Kb_exit, Kb_ret, Kreg_eq, eI_nil, bindSt_some,
                bindSt_none, bindSt_ite, eR_eq, eGI_tt, eGI_ff, eGI_tf, eGI_ft, eop, vop, ev_t, ev_c, ev_f, Option.map, put_some, put_none, set_eq, setH_eq, get_eq, hp_eq,
                keep_cons, keep_nil, lk_cons, lk_nil, startSt, envOf, reduceIte, Nat.reduceEqDiff, Nat.reduceAdd, Nat.zero_add, Nat.add_zero, Nat.reduceMul, Nat.reduceLT,
                Nat.reduceLeDiff, bop, uop, intop, fltop, convop, true_or, or_true, Bool.false_eq_true, ret_ok, ret_normal, outV, rvV, rvs, ex_some, pureV, pureX, pureX.pure1',
                pure1, Bool.true_and, Bool.false_and, Bool.and_true, Bool.and_false, Option.isNone_none, AV.cells, AV.one, storable, laid, refless, refless1, List.all_cons,
                List.all_nil, List.length_cons, List.length_nil, List.getElem?_cons_zero, List.getElem?_cons_succ, List.set_cons_zero, List.set_cons_succ, List.set_nil,
                List.map_cons, List.map_nil, vload, loadC, storeC, vnil, vfaddr, vextract, callTo, List.mapM_cons, List.mapM_nil, Option.pure_def, Option.bind_eq_bind,
                Option.bind_some, tabOf_cons, flatT, flatE, flatC, and_self, and_true, true_and, implies_true, forall_const, not_true_eq_false, not_false_eq_true, false_implies,
                List.take_succ_cons, List.drop_succ_cons, List.take_zero, List.drop_zero, Bool.not_true, Bool.not_false, beq_self_eq_true, decide_true, decide_false, eq_self,
                Int.reduceEq, Int.reduceLE, Int.reduceLT, Bool.not_not, Bool.true_or, Bool.or_true, Bool.false_or, Bool.or_false, if_true, if_false, List.getElem?_nil, Kl_normal,
                Kl_exit, Kl_ret, fc37_0, fc37_1, fc37_2, fc37_3, fc37_4, fc37_5, fc37_6, fc37_7, fc37_8, fc37_9, fc37_10, fc37_11, fc37_12, fc37_13, fc37_14, fc37_15, fc37_16,
                fc37_17, fc37_18, fc37_19, fc37_20, fc37_21, fc37_22, fc37_23, fc37_24, cast_lit, toNat_lit, Int.reduceAdd, Int.reduceSub, Int.reduceMul, Int.reduceNeg,
                Int.reducePow, Nat.reducePow, Int.reduceToNat, Nat.reduceSub, Nat.mul_one, Int.toNat_zero, prod_eta, List.nil_append, List.cons_append, List.append_nil, vconv, vmm,
                vidxA, viaddrA, iaddr_sl, iaddr_lsl, getE, vfield, vlen, fillC, fillE, List.replicate, elemsOf, List.length_map, f2iK_eq, bits_i64, bits_i32, bits_u64, bits_u32,
                bits_u8, e_mov, g_mov, e_conv, g_conv, e_call, g_call, g_math_Sqrt, g_spec_l01Narrow]
      repeat' (first
        | ((first | (refine eGI_of (fun h => ?_) (fun h => ?_)) | (refine eCc_of (fun h => ?_) (fun h => ?_))) <;> (try simp only [Bool.not_eq_true', Bool.not_eq_false'] at h) <;> (try simp only [h, reduceCtorEq, Bool.not_eq_true', decide_eq_false_iff_not, Bool.not_true, Bool.not_false, Bool.false_or, Bool.true_or, Bool.true_and, Bool.false_and, Bool.and_eq_true, Bool.or_eq_true, if_true, if_false, reduceIte, Bool.false_eq_true, and_true, true_and, false_or, or_false, decide_eq_true_eq, not_false_eq_true, not_true_eq_false] at hp) <;> (try (have h2 := h; simp only [decide_eq_true_eq, decide_eq_false_iff_not] at h2; simp only [h2, if_true, if_false, false_or, true_or, or_true, or_false, and_true, true_and, not_false_eq_true, not_true_eq_false] at hp)) <;> simp only [h,
          hp, eA_seq, eA_reg, eA_ret, eA_skip, eA_cond, eA_block, eA_exit, eCc_true, eCc_false, Kq_normal, Kq_ret, Kq_exit, Kb_normal, Kb_exit, Kb_ret, Kreg_eq, eI_nil, bindSt_some,
                bindSt_none, bindSt_ite, eR_eq, eGI_tt, eGI_ff, eGI_tf, eGI_ft, eop, vop, ev_t, ev_c, ev_f, Option.map, put_some, put_none, set_eq, setH_eq, get_eq, hp_eq,
                keep_cons, keep_nil, lk_cons, lk_nil, startSt, envOf, reduceIte, Nat.reduceEqDiff, Nat.reduceAdd, Nat.zero_add, Nat.add_zero, Nat.reduceMul, Nat.reduceLT,
                Nat.reduceLeDiff, bop, uop, intop, fltop, convop, true_or, or_true, Bool.false_eq_true, ret_ok, ret_normal, outV, rvV, rvs, ex_some, pureV, pureX, pureX.pure1',
                pure1, Bool.true_and, Bool.false_and, Bool.and_true, Bool.and_false, Option.isNone_none, AV.cells, AV.one, storable, laid, refless, refless1, List.all_cons,
                List.all_nil, List.length_cons, List.length_nil, List.getElem?_cons_zero, List.getElem?_cons_succ, List.set_cons_zero, List.set_cons_succ, List.set_nil,
                List.map_cons, List.map_nil, vload, loadC, storeC, vnil, vfaddr, vextract, callTo, List.mapM_cons, List.mapM_nil, Option.pure_def, Option.bind_eq_bind,
                Option.bind_some, tabOf_cons, flatT, flatE, flatC, and_self, and_true, true_and, implies_true, forall_const, not_true_eq_false, not_false_eq_true, false_implies,
                List.take_succ_cons, List.drop_succ_cons, List.take_zero, List.drop_zero, Bool.not_true, Bool.not_false, beq_self_eq_true, decide_true, decide_false, eq_self,
                Int.reduceEq, Int.reduceLE, Int.reduceLT, Bool.not_not, Bool.true_or, Bool.or_true, Bool.false_or, Bool.or_false, if_true, if_false, List.getElem?_nil, Kl_normal,
                Kl_exit, Kl_ret, fc37_0, fc37_1, fc37_2, fc37_3, fc37_4, fc37_5, fc37_6, fc37_7, fc37_8, fc37_9, fc37_10, fc37_11, fc37_12, fc37_13, fc37_14, fc37_15, fc37_16,
                fc37_17, fc37_18, fc37_19, fc37_20, fc37_21, fc37_22, fc37_23, fc37_24, cast_lit, toNat_lit, Int.reduceAdd, Int.reduceSub, Int.reduceMul, Int.reduceNeg,
                Int.reducePow, Nat.reducePow, Int.reduceToNat, Nat.reduceSub, Nat.mul_one, Int.toNat_zero, prod_eta, List.nil_append, List.cons_append, List.append_nil, vconv, vmm,
                vidxA, viaddrA, iaddr_sl, iaddr_lsl, getE, vfield, vlen, fillC, fillE, List.replicate, elemsOf, List.length_map, f2iK_eq, bits_i64, bits_i32, bits_u64, bits_u32,
                bits_u8, e_mov, g_mov, e_conv, g_conv, e_call, g_call, g_math_Sqrt, g_spec_l01Narrow]))
      all_goals (try simp only [*, m_spec_l01Sqrt, Bool.and_true, Bool.true_and, Bool.and_false, Bool.false_and, Bool.or_true, Bool.true_or, Bool.or_false, Bool.false_or, Bool.not_true, Bool.not_false, Bool.false_eq_true, if_true, if_false, reduceIte, decide_true, decide_false])
      all_goals (try (simp_all; done))
    · cases h
  · cases h
def m_spec_l01Long (x0 : (Nat × Nat × Nat)) : Nat := (m_spec_l01Sqrt (m_spec_l01Inner x0 x0))
def p_spec_l01Long (x0 : (Nat × Nat × Nat)) : Bool := (p_spec_l01Sqrt (m_spec_l01Inner x0 x0))
def g_spec_l01Long : List AV → Option AV
  | [.agg [.flt .f32 y0, .flt .f32 y1, .flt .f32 y2]] => if p_spec_l01Long (y0, y1, y2) = true then some (.flt .f32 (m_spec_l01Long (y0, y1,
      y2))) else none
  | _ => none
def ic35 : ICode := (.seq (.reg [⟨(some 1), none, (.box 3 (.t 0))⟩, ⟨(some 2), none, (.mov (.c (.flt .f32 0)))⟩] [1]) (.seq (.reg [⟨(some 3), none, (.load (some 3) (.t 1))⟩, ⟨(some
      4), none, (.load (some 3) (.t 1))⟩, ⟨(some 5), none, (.call (.fn 40) [(.t 3), (.t 4)] [])⟩, ⟨(some 6), none, (.call (.fn 37) [(.t 5)] [])⟩, ⟨(some 2), none, (.mov (.t 6))⟩]
      [2]) .ret))
def cp35 : CP := { n := 7, kp := [[1], [2]] }
theorem fc35_0 : IntKind.wrap .i64 0 = 0 := by decide
theorem fc35_1 : IntKind.wrap .i64 1 = 1 := by decide
theorem fc35_2 : IntKind.wrap .i64 10 = 10 := by decide
theorem fc35_3 : IntKind.wrap .i64 11 = 11 := by decide
theorem fc35_4 : IntKind.wrap .i64 110 = 110 := by decide
theorem fc35_5 : IntKind.wrap .i64 12 = 12 := by decide
theorem fc35_6 : IntKind.wrap .i64 13 = 13 := by decide
theorem fc35_7 : IntKind.wrap .i64 14 = 14 := by decide
theorem fc35_8 : IntKind.wrap .i64 15 = 15 := by decide
theorem fc35_9 : IntKind.wrap .i64 156 = 156 := by decide
theorem fc35_10 : IntKind.wrap .i64 16 = 16 := by decide
theorem fc35_11 : IntKind.wrap .i64 17 = 17 := by decide
theorem fc35_12 : IntKind.wrap .i64 2 = 2 := by decide
theorem fc35_13 : IntKind.wrap .i64 20 = 20 := by decide
theorem fc35_14 : IntKind.wrap .i64 210 = 210 := by decide
theorem fc35_15 : IntKind.wrap .i64 272 = 272 := by decide
theorem fc35_16 : IntKind.wrap .i64 3 = 3 := by decide
theorem fc35_17 : IntKind.wrap .i64 4 = 4 := by decide
theorem fc35_18 : IntKind.wrap .i64 42 = 42 := by decide
theorem fc35_19 : IntKind.wrap .i64 5 = 5 := by decide
theorem fc35_20 : IntKind.wrap .i64 6 = 6 := by decide
theorem fc35_21 : IntKind.wrap .i64 7 = 7 := by decide
theorem fc35_22 : IntKind.wrap .i64 72 = 72 := by decide
theorem fc35_23 : IntKind.wrap .i64 8 = 8 := by decide
theorem fc35_24 : IntKind.wrap .i64 9 = 9 := by decide
theorem s35 : ∀ vs r, g_spec_l01Long vs = some r → Says Try.prog 35 vs r := by
  intro vs r h
  unfold g_spec_l01Long at h
  split at h
  · rename_i y0 y1 y2
    split at h
    · rename_i hp
      cases h
      refine spec_of (tab := tabOf [(37, g_spec_l01Sqrt), (40, g_spec_l01Inner)]) (cp := cp35) (ic := ic35) (rvl := [(.t 2)]) hm (tabOk_cons s37 (tabOk_cons s40 tabOk_nil)) Try.func35 rfl rfl rfl (by kernel_rfl) rfl (Nat.le_of_ble_eq_true rfl) ?_
      show eA _ _ _ _
      unfold ic35
      simp only [p_spec_l01Long, Bool.and_eq_true, Bool.or_eq_true, decide_eq_true_eq, Bool.not_eq_true', decide_eq_false_iff_not] at hp
      simp only [
          hp, eA_seq, eA_reg, eA_ret, eA_skip, eA_cond, eA_block, eA_exit, eCc_true, eCc_false, Kq_normal, Kq_ret, Kq_exit, Kb_normal, Kb_exit, Kb_ret, Kreg_eq, eI_nil, bindSt_some,
                bindSt_none, bindSt_ite, eR_eq, eGI_tt, eGI_ff, eGI_tf, eGI_ft, eop, vop, ev_t, ev_c, ev_f, Option.map, put_some, put_none, set_eq, setH_eq, get_eq, hp_eq,
                keep_cons, keep_nil, lk_cons, lk_nil, startSt, envOf, reduceIte, Nat.reduceEqDiff, Nat.reduceAdd, Nat.zero_add, Nat.add_zero, Nat.reduceMul, Nat.reduceLT,
                Nat.reduceLeDiff, bop, uop, intop, fltop, convop, true_or, or_true, Bool.false_eq_true, ret_ok, ret_normal, outV, rvV, rvs, ex_some, pureV, pureX, pureX.pure1',
                pure1, Bool.true_and, Bool.false_and, Bool.and_true, Bool.and_false, Option.isNone_none, AV.cells, AV.one, storable, laid, refless, refless1, List.all_cons,
                List.all_nil, List.length_cons, List.length_nil, List.getElem?_cons_zero, List.getElem?_cons_succ, List.set_cons_zero, List.set_cons_succ, List.set_nil,
                List.map_cons, List.map_nil, vload, loadC, storeC, vnil, vfaddr, vextract, callTo, List.mapM_cons, List.mapM_nil, Option.pure_def, Option.bind_eq_bind,
                Option.bind_some, tabOf_cons, flatT, flatE, flatC, and_self, and_true, true_and, implies_true, forall_const, not_true_eq_false, not_false_eq_true, false_implies,
                List.take_succ_cons, List.drop_succ_cons, List.take_zero, List.drop_zero, Bool.not_true, Bool.not_false, beq_self_eq_true, decide_true, decide_false, eq_self,
                Int.reduceEq, Int.reduceLE, Int.reduceLT, Bool.not_not, Bool.true_or, Bool.or_true, Bool.false_or, Bool.or_false, if_true, if_false, List.getElem?_nil, Kl_normal,
                Kl_exit, Kl_ret, fc35_0, fc35_1, fc35_2, fc35_3, fc35_4, fc35_5, fc35_6, fc35_7, fc35_8, fc35_9, fc35_10, fc35_11, fc35_12, fc35_13, fc35_14, fc35_15, fc35_16,
                fc35_17, fc35_18, fc35_19, fc35_20, fc35_21, fc35_22, fc35_23, fc35_24, cast_lit, toNat_lit, Int.reduceAdd, Int.reduceSub, Int.reduceMul, Int.reduceNeg,
                Int.reducePow, Nat.reducePow, Int.reduceToNat, Nat.reduceSub, Nat.mul_one, Int.toNat_zero, prod_eta, List.nil_append, List.cons_append, List.append_nil, vconv, vmm,
                vidxA, viaddrA, iaddr_sl, iaddr_lsl, getE, vfield, vlen, fillC, fillE, List.replicate, elemsOf, List.length_map, f2iK_eq, bits_i64, bits_i32, bits_u64, bits_u32,
                bits_u8, e_mov, g_mov, e_box, g_box, e_load, g_load, e_call, g_call, g_spec_l01Sqrt, g_spec_l01Inner]
      repeat' (first
        | ((first | (refine eGI_of (fun h => ?_) (fun h => ?_)) | (refine eCc_of (fun h => ?_) (fun h => ?_))) <;> (try simp only [Bool.not_eq_true', Bool.not_eq_false'] at h) <;> (try simp only [h, reduceCtorEq, Bool.not_eq_true', decide_eq_false_iff_not, Bool.not_true, Bool.not_false, Bool.false_or, Bool.true_or, Bool.true_and, Bool.false_and, Bool.and_eq_true, Bool.or_eq_true, if_true, if_false, reduceIte, Bool.false_eq_true, and_true, true_and, false_or, or_false, decide_eq_true_eq, not_false_eq_true, not_true_eq_false] at hp) <;> (try (have h2 := h; simp only [decide_eq_true_eq, decide_eq_false_iff_not] at h2; simp only [h2, if_true, if_false, false_or, true_or, or_true, or_false, and_true, true_and, not_false_eq_true, not_true_eq_false] at hp)) <;> simp only [h,
          hp, eA_seq, eA_reg, eA_ret, eA_skip, eA_cond, eA_block, eA_exit, eCc_true, eCc_false, Kq_normal, Kq_ret, Kq_exit, Kb_normal, Kb_exit, Kb_ret, Kreg_eq, eI_nil, bindSt_some,
                bindSt_none, bindSt_ite, eR_eq, eGI_tt, eGI_ff, eGI_tf, eGI_ft, eop, vop, ev_t, ev_c, ev_f, Option.map, put_some, put_none, set_eq, setH_eq, get_eq, hp_eq,
                keep_cons, keep_nil, lk_cons, lk_nil, startSt, envOf, reduceIte, Nat.reduceEqDiff, Nat.reduceAdd, Nat.zero_add, Nat.add_zero, Nat.reduceMul, Nat.reduceLT,
                Nat.reduceLeDiff, bop, uop, intop, fltop, convop, true_or, or_true, Bool.false_eq_true, ret_ok, ret_normal, outV, rvV, rvs, ex_some, pureV, pureX, pureX.pure1',
                pure1, Bool.true_and, Bool.false_and, Bool.and_true, Bool.and_false, Option.isNone_none, AV.cells, AV.one, storable, laid, refless, refless1, List.all_cons,
                List.all_nil, List.length_cons, List.length_nil, List.getElem?_cons_zero, List.getElem?_cons_succ, List.set_cons_zero, List.set_cons_succ, List.set_nil,
                List.map_cons, List.map_nil, vload, loadC, storeC, vnil, vfaddr, vextract, callTo, List.mapM_cons, List.mapM_nil, Option.pure_def, Option.bind_eq_bind,
                Option.bind_some, tabOf_cons, flatT, flatE, flatC, and_self, and_true, true_and, implies_true, forall_const, not_true_eq_false, not_false_eq_true, false_implies,
                List.take_succ_cons, List.drop_succ_cons, List.take_zero, List.drop_zero, Bool.not_true, Bool.not_false, beq_self_eq_true, decide_true, decide_false, eq_self,
                Int.reduceEq, Int.reduceLE, Int.reduceLT, Bool.not_not, Bool.true_or, Bool.or_true, Bool.false_or, Bool.or_false, if_true, if_false, List.getElem?_nil, Kl_normal,
                Kl_exit, Kl_ret, fc35_0, fc35_1, fc35_2, fc35_3, fc35_4, fc35_5, fc35_6, fc35_7, fc35_8, fc35_9, fc35_10, fc35_11, fc35_12, fc35_13, fc35_14, fc35_15, fc35_16,
                fc35_17, fc35_18, fc35_19, fc35_20, fc35_21, fc35_22, fc35_23, fc35_24, cast_lit, toNat_lit, Int.reduceAdd, Int.reduceSub, Int.reduceMul, Int.reduceNeg,
                Int.reducePow, Nat.reducePow, Int.reduceToNat, Nat.reduceSub, Nat.mul_one, Int.toNat_zero, prod_eta, List.nil_append, List.cons_append, List.append_nil, vconv, vmm,
                vidxA, viaddrA, iaddr_sl, iaddr_lsl, getE, vfield, vlen, fillC, fillE, List.replicate, elemsOf, List.length_map, f2iK_eq, bits_i64, bits_i32, bits_u64, bits_u32,
                bits_u8, e_mov, g_mov, e_box, g_box, e_load, g_load, e_call, g_call, g_spec_l01Sqrt, g_spec_l01Inner]))
      all_goals (try simp only [*, m_spec_l01Long, Bool.and_true, Bool.true_and, Bool.and_false, Bool.false_and, Bool.or_true, Bool.true_or, Bool.or_false, Bool.false_or, Bool.not_true, Bool.not_false, Bool.false_eq_true, if_true, if_false, reduceIte, decide_true, decide_false])
      all_goals (try (simp_all; done))
    · cases h
  · cases h
def m_spec_l01Finite (x0 : Nat) : Bool := (feq .f32 (fsub .f32 x0 x0) 0)
def g_spec_l01Finite : List AV → Option AV
  | [.flt .f32 y0] => some (.bool (m_spec_l01Finite y0))
  | _ => none
def ic58 : ICode := (.seq (.reg [⟨(some 2), none, (.mov (.c (.bool false)))⟩] [0]) (.seq (.reg [⟨(some 3), none, (.mov (.t 0))⟩, ⟨(some 4), none, (.mov (.t 0))⟩, ⟨(some 5), none,
      (.bin .sub false (.t 3) (.t 4))⟩, ⟨(some 6), none, (.bin .eql false (.t 5) (.c (.flt .f32 0)))⟩, ⟨(some 2), none, (.mov (.t 6))⟩] [2]) .ret))
def cp58 : CP := { n := 7, kp := [[0], [2]] }
theorem fc58_0 : IntKind.wrap .i64 0 = 0 := by decide
theorem fc58_1 : IntKind.wrap .i64 1 = 1 := by decide
theorem fc58_2 : IntKind.wrap .i64 10 = 10 := by decide
theorem fc58_3 : IntKind.wrap .i64 11 = 11 := by decide
theorem fc58_4 : IntKind.wrap .i64 110 = 110 := by decide
theorem fc58_5 : IntKind.wrap .i64 12 = 12 := by decide
theorem fc58_6 : IntKind.wrap .i64 13 = 13 := by decide
theorem fc58_7 : IntKind.wrap .i64 14 = 14 := by decide
theorem fc58_8 : IntKind.wrap .i64 15 = 15 := by decide
theorem fc58_9 : IntKind.wrap .i64 156 = 156 := by decide
theorem fc58_10 : IntKind.wrap .i64 16 = 16 := by decide
theorem fc58_11 : IntKind.wrap .i64 17 = 17 := by decide
theorem fc58_12 : IntKind.wrap .i64 2 = 2 := by decide
theorem fc58_13 : IntKind.wrap .i64 20 = 20 := by decide
theorem fc58_14 : IntKind.wrap .i64 210 = 210 := by decide
theorem fc58_15 : IntKind.wrap .i64 272 = 272 := by decide
theorem fc58_16 : IntKind.wrap .i64 3 = 3 := by decide
theorem fc58_17 : IntKind.wrap .i64 4 = 4 := by decide
theorem fc58_18 : IntKind.wrap .i64 42 = 42 := by decide
theorem fc58_19 : IntKind.wrap .i64 5 = 5 := by decide
theorem fc58_20 : IntKind.wrap .i64 6 = 6 := by decide
theorem fc58_21 : IntKind.wrap .i64 7 = 7 := by decide
theorem fc58_22 : IntKind.wrap .i64 72 = 72 := by decide
theorem fc58_23 : IntKind.wrap .i64 8 = 8 := by decide
theorem fc58_24 : IntKind.wrap .i64 9 = 9 := by decide
theorem s58 : ∀ vs r, g_spec_l01Finite vs = some r → Says Try.prog 58 vs r := by
  intro vs r h
  unfold g_spec_l01Finite at h
  split at h
  · rename_i y0
    cases h
    refine spec_of (tab := tabOf []) (cp := cp58) (ic := ic58) (rvl := [(.t 2)]) hm tabOk_nil Try.func58 rfl rfl rfl (by kernel_rfl) rfl (Nat.le_of_ble_eq_true rfl) ?_
    show eA _ _ _ _
    unfold ic58
    simp only [
        eA_seq, eA_reg, eA_ret, eA_skip, eA_cond, eA_block, eA_exit, eCc_true, eCc_false, Kq_normal, Kq_ret, Kq_exit, Kb_normal, Kb_exit, Kb_ret, Kreg_eq, eI_nil, bindSt_some,
              bindSt_none, bindSt_ite, eR_eq, eGI_tt, eGI_ff, eGI_tf, eGI_ft, eop, vop, ev_t, ev_c, ev_f, Option.map, put_some, put_none, set_eq, setH_eq, get_eq, hp_eq, keep_cons,
              keep_nil, lk_cons, lk_nil, startSt, envOf, reduceIte, Nat.reduceEqDiff, Nat.reduceAdd, Nat.zero_add, Nat.add_zero, Nat.reduceMul, Nat.reduceLT, Nat.reduceLeDiff, bop,
              uop, intop, fltop, convop, true_or, or_true, Bool.false_eq_true, ret_ok, ret_normal, outV, rvV, rvs, ex_some, pureV, pureX, pureX.pure1', pure1, Bool.true_and,
              Bool.false_and, Bool.and_true, Bool.and_false, Option.isNone_none, AV.cells, AV.one, storable, laid, refless, refless1, List.all_cons, List.all_nil, List.length_cons,
              List.length_nil, List.getElem?_cons_zero, List.getElem?_cons_succ, List.set_cons_zero, List.set_cons_succ, List.set_nil, List.map_cons, List.map_nil, vload, loadC,
              storeC, vnil, vfaddr, vextract, callTo, List.mapM_cons, List.mapM_nil, Option.pure_def, Option.bind_eq_bind, Option.bind_some, tabOf_cons, flatT, flatE, flatC,
              and_self, and_true, true_and, implies_true, forall_const, not_true_eq_false, not_false_eq_true, false_implies, List.take_succ_cons, List.drop_succ_cons,
              List.take_zero, List.drop_zero, Bool.not_true, Bool.not_false, beq_self_eq_true, decide_true, decide_false, eq_self, Int.reduceEq, Int.reduceLE, Int.reduceLT,
              Bool.not_not, Bool.true_or, Bool.or_true, Bool.false_or, Bool.or_false, if_true, if_false, List.getElem?_nil, Kl_normal, Kl_exit, Kl_ret, fc58_0, fc58_1, fc58_2,
              fc58_3, fc58_4, fc58_5, fc58_6, fc58_7, fc58_8, fc58_9, fc58_10, fc58_11, fc58_12, fc58_13, fc58_14, fc58_15, fc58_16, fc58_17, fc58_18, fc58_19, fc58_20, fc58_21,
              fc58_22, fc58_23, fc58_24, cast_lit, toNat_lit, Int.reduceAdd, Int.reduceSub, Int.reduceMul, Int.reduceNeg, Int.reducePow, Nat.reducePow, Int.reduceToNat,
              Nat.reduceSub, Nat.mul_one, Int.toNat_zero, prod_eta, List.nil_append, List.cons_append, List.append_nil, vconv, vmm, vidxA, viaddrA, iaddr_sl, iaddr_lsl, getE,
              vfield, vlen, fillC, fillE, List.replicate, elemsOf, List.length_map, f2iK_eq, bits_i64, bits_i32, bits_u64, bits_u32, bits_u8, e_mov, g_mov, e_bin, g_bin]
    repeat' (first
      | ((first | (refine eGI_of (fun h => ?_) (fun h => ?_)) | (refine eCc_of (fun h => ?_) (fun h => ?_))) <;> (try simp only [Bool.not_eq_true', Bool.not_eq_false'] at h) <;> simp only [h,
        eA_seq, eA_reg, eA_ret, eA_skip, eA_cond, eA_block, eA_exit, eCc_true, eCc_false, Kq_normal, Kq_ret, Kq_exit, Kb_normal, Kb_exit, Kb_ret, Kreg_eq, eI_nil, bindSt_some,
              bindSt_none, bindSt_ite, eR_eq, eGI_tt, eGI_ff, eGI_tf, eGI_ft, eop, vop, ev_t, ev_c, ev_f, Option.map, put_some, put_none, set_eq, setH_eq, get_eq, hp_eq, keep_cons,
              keep_nil, lk_cons, lk_nil, startSt, envOf, reduceIte, Nat.reduceEqDiff, Nat.reduceAdd, Nat.zero_add, Nat.add_zero, Nat.reduceMul, Nat.reduceLT, Nat.reduceLeDiff, bop,
              uop, intop, fltop, convop, true_or, or_true, Bool.false_eq_true, ret_ok, ret_normal, outV, rvV, rvs, ex_some, pureV, pureX, pureX.pure1', pure1, Bool.true_and,
              Bool.false_and, Bool.and_true, Bool.and_false, Option.isNone_none, AV.cells, AV.one, storable, laid, refless, refless1, List.all_cons, List.all_nil, List.length_cons,
              List.length_nil, List.getElem?_cons_zero, List.getElem?_cons_succ, List.set_cons_zero, List.set_cons_succ, List.set_nil, List.map_cons, List.map_nil, vload, loadC,
              storeC, vnil, vfaddr, vextract, callTo, List.mapM_cons, List.mapM_nil, Option.pure_def, Option.bind_eq_bind, Option.bind_some, tabOf_cons, flatT, flatE, flatC,
              and_self, and_true, true_and, implies_true, forall_const, not_true_eq_false, not_false_eq_true, false_implies, List.take_succ_cons, List.drop_succ_cons,
              List.take_zero, List.drop_zero, Bool.not_true, Bool.not_false, beq_self_eq_true, decide_true, decide_false, eq_self, Int.reduceEq, Int.reduceLE, Int.reduceLT,
              Bool.not_not, Bool.true_or, Bool.or_true, Bool.false_or, Bool.or_false, if_true, if_false, List.getElem?_nil, Kl_normal, Kl_exit, Kl_ret, fc58_0, fc58_1, fc58_2,
              fc58_3, fc58_4, fc58_5, fc58_6, fc58_7, fc58_8, fc58_9, fc58_10, fc58_11, fc58_12, fc58_13, fc58_14, fc58_15, fc58_16, fc58_17, fc58_18, fc58_19, fc58_20, fc58_21,
              fc58_22, fc58_23, fc58_24, cast_lit, toNat_lit, Int.reduceAdd, Int.reduceSub, Int.reduceMul, Int.reduceNeg, Int.reducePow, Nat.reducePow, Int.reduceToNat,
              Nat.reduceSub, Nat.mul_one, Int.toNat_zero, prod_eta, List.nil_append, List.cons_append, List.append_nil, vconv, vmm, vidxA, viaddrA, iaddr_sl, iaddr_lsl, getE,
              vfield, vlen, fillC, fillE, List.replicate, elemsOf, List.length_map, f2iK_eq, bits_i64, bits_i32, bits_u64, bits_u32, bits_u8, e_mov, g_mov, e_bin, g_bin]))
    all_goals (try simp only [*, m_spec_l01Finite, Bool.and_true, Bool.true_and, Bool.and_false, Bool.false_and, Bool.or_true, Bool.true_or, Bool.or_false, Bool.false_or, Bool.not_true, Bool.not_false, Bool.false_eq_true, if_true, if_false, reduceIte, decide_true, decide_false])
    all_goals (try (simp_all; done))
  · cases h
def m_spec_l02No  : (Nat × Nat × Nat × Nat) := (1065353216, 0, 0, 0)
def g_spec_l02No : List AV → Option AV
  | [] => some (AV.agg [(.flt .f32 (m_spec_l02No).1), (.flt .f32 (m_spec_l02No).2.1), (.flt .f32 (m_spec_l02No).2.2.1), (.flt .f32
      (m_spec_l02No).2.2.2)])
  | _ => none
def ic82 : ICode := (.seq (.reg [⟨(some 0), none, (.alloc (.agg [(.flt .f32 0), (.flt .f32 0), (.flt .f32 0), (.flt .f32 0)]))⟩] [0]) (.seq (.reg [⟨(some 1), none, (.build [(.flt
      .f32 0), (.flt .f32 0), (.flt .f32 0), (.flt .f32 0)] [(0, 1, (.c (.flt .f32 1065353216)))])⟩, ⟨none, none, (.store 4 (.t 0) (.t 1))⟩] [0]) .ret))
def cp82 : CP := { n := 2, kp := [[0], [0]] }
theorem fc82_0 : IntKind.wrap .i64 0 = 0 := by decide
theorem fc82_1 : IntKind.wrap .i64 1 = 1 := by decide
theorem fc82_2 : IntKind.wrap .i64 10 = 10 := by decide
theorem fc82_3 : IntKind.wrap .i64 11 = 11 := by decide
theorem fc82_4 : IntKind.wrap .i64 110 = 110 := by decide
theorem fc82_5 : IntKind.wrap .i64 12 = 12 := by decide
theorem fc82_6 : IntKind.wrap .i64 13 = 13 := by decide
theorem fc82_7 : IntKind.wrap .i64 14 = 14 := by decide
theorem fc82_8 : IntKind.wrap .i64 15 = 15 := by decide
theorem fc82_9 : IntKind.wrap .i64 156 = 156 := by decide
theorem fc82_10 : IntKind.wrap .i64 16 = 16 := by decide
theorem fc82_11 : IntKind.wrap .i64 17 = 17 := by decide
theorem fc82_12 : IntKind.wrap .i64 2 = 2 := by decide
theorem fc82_13 : IntKind.wrap .i64 20 = 20 := by decide
theorem fc82_14 : IntKind.wrap .i64 210 = 210 := by decide
theorem fc82_15 : IntKind.wrap .i64 272 = 272 := by decide
theorem fc82_16 : IntKind.wrap .i64 3 = 3 := by decide
theorem fc82_17 : IntKind.wrap .i64 4 = 4 := by decide
theorem fc82_18 : IntKind.wrap .i64 42 = 42 := by decide
theorem fc82_19 : IntKind.wrap .i64 5 = 5 := by decide
theorem fc82_20 : IntKind.wrap .i64 6 = 6 := by decide
theorem fc82_21 : IntKind.wrap .i64 7 = 7 := by decide
theorem fc82_22 : IntKind.wrap .i64 72 = 72 := by decide
theorem fc82_23 : IntKind.wrap .i64 8 = 8 := by decide
theorem fc82_24 : IntKind.wrap .i64 9 = 9 := by decide
theorem s82 : ∀ vs r, g_spec_l02No vs = some r → Says Try.prog 82 vs r := by
  intro vs r h
  unfold g_spec_l02No at h
  split at h
  · cases h
    refine spec_of (tab := tabOf []) (cp := cp82) (ic := ic82) (rvl := [(.c 0 (some 4))]) hm tabOk_nil Try.func82 rfl rfl rfl (by kernel_rfl) rfl (Nat.le_of_ble_eq_true rfl) ?_
    show eA _ _ _ _
    unfold ic82
    simp only [
        eA_seq, eA_reg, eA_ret, eA_skip, eA_cond, eA_block, eA_exit, eCc_true, eCc_false, Kq_normal, Kq_ret, Kq_exit, Kb_normal, Kb_exit, Kb_ret, Kreg_eq, eI_nil, bindSt_some,
              bindSt_none, bindSt_ite, eR_eq, eGI_tt, eGI_ff, eGI_tf, eGI_ft, eop, vop, ev_t, ev_c, ev_f, Option.map, put_some, put_none, set_eq, setH_eq, get_eq, hp_eq, keep_cons,
              keep_nil, lk_cons, lk_nil, startSt, envOf, reduceIte, Nat.reduceEqDiff, Nat.reduceAdd, Nat.zero_add, Nat.add_zero, Nat.reduceMul, Nat.reduceLT, Nat.reduceLeDiff, bop,
              uop, intop, fltop, convop, true_or, or_true, Bool.false_eq_true, ret_ok, ret_normal, outV, rvV, rvs, ex_some, pureV, pureX, pureX.pure1', pure1, Bool.true_and,
              Bool.false_and, Bool.and_true, Bool.and_false, Option.isNone_none, AV.cells, AV.one, storable, laid, refless, refless1, List.all_cons, List.all_nil, List.length_cons,
              List.length_nil, List.getElem?_cons_zero, List.getElem?_cons_succ, List.set_cons_zero, List.set_cons_succ, List.set_nil, List.map_cons, List.map_nil, vload, loadC,
              storeC, vnil, vfaddr, vextract, callTo, List.mapM_cons, List.mapM_nil, Option.pure_def, Option.bind_eq_bind, Option.bind_some, tabOf_cons, flatT, flatE, flatC,
              and_self, and_true, true_and, implies_true, forall_const, not_true_eq_false, not_false_eq_true, false_implies, List.take_succ_cons, List.drop_succ_cons,
              List.take_zero, List.drop_zero, Bool.not_true, Bool.not_false, beq_self_eq_true, decide_true, decide_false, eq_self, Int.reduceEq, Int.reduceLE, Int.reduceLT,
              Bool.not_not, Bool.true_or, Bool.or_true, Bool.false_or, Bool.or_false, if_true, if_false, List.getElem?_nil, Kl_normal, Kl_exit, Kl_ret, fc82_0, fc82_1, fc82_2,
              fc82_3, fc82_4, fc82_5, fc82_6, fc82_7, fc82_8, fc82_9, fc82_10, fc82_11, fc82_12, fc82_13, fc82_14, fc82_15, fc82_16, fc82_17, fc82_18, fc82_19, fc82_20, fc82_21,
              fc82_22, fc82_23, fc82_24, cast_lit, toNat_lit, Int.reduceAdd, Int.reduceSub, Int.reduceMul, Int.reduceNeg, Int.reducePow, Nat.reducePow, Int.reduceToNat,
              Nat.reduceSub, Nat.mul_one, Int.toNat_zero, prod_eta, List.nil_append, List.cons_append, List.append_nil, vconv, vmm, vidxA, viaddrA, iaddr_sl, iaddr_lsl, getE,
              vfield, vlen, fillC, fillE, List.replicate, elemsOf, List.length_map, f2iK_eq, bits_i64, bits_i32, bits_u64, bits_u32, bits_u8, e_alloc, g_alloc, e_build, g_build,
              e_store, g_store]
    repeat' (first
      | ((first | (refine eGI_of (fun h => ?_) (fun h => ?_)) | (refine eCc_of (fun h => ?_) (fun h => ?_))) <;> (try simp only [Bool.not_eq_true', Bool.not_eq_false'] at h) <;> simp only [h,
        eA_seq, eA_reg, eA_ret, eA_skip, eA_cond, eA_block, eA_exit, eCc_true, eCc_false, Kq_normal, Kq_ret, Kq_exit, Kb_normal, Kb_exit, Kb_ret, Kreg_eq, eI_nil, bindSt_some,
              bindSt_none, bindSt_ite, eR_eq, eGI_tt, eGI_ff, eGI_tf, eGI_ft, eop, vop, ev_t, ev_c, ev_f, Option.map, put_some, put_none, set_eq, setH_eq, get_eq, hp_eq, keep_cons,
              keep_nil, lk_cons, lk_nil, startSt, envOf, reduceIte, Nat.reduceEqDiff, Nat.reduceAdd, Nat.zero_add, Nat.add_zero, Nat.reduceMul, Nat.reduceLT, Nat.reduceLeDiff, bop,
              uop, intop, fltop, convop, true_or, or_true, Bool.false_eq_true, ret_ok, ret_normal, outV, rvV, rvs, ex_some, pureV, pureX, pureX.pure1', pure1, Bool.true_and,
              Bool.false_and, Bool.and_true, Bool.and_false, Option.isNone_none, AV.cells, AV.one, storable, laid, refless, refless1, List.all_cons, List.all_nil, List.length_cons,
              List.length_nil, List.getElem?_cons_zero, List.getElem?_cons_succ, List.set_cons_zero, List.set_cons_succ, List.set_nil, List.map_cons, List.map_nil, vload, loadC,
              storeC, vnil, vfaddr, vextract, callTo, List.mapM_cons, List.mapM_nil, Option.pure_def, Option.bind_eq_bind, Option.bind_some, tabOf_cons, flatT, flatE, flatC,
              and_self, and_true, true_and, implies_true, forall_const, not_true_eq_false, not_false_eq_true, false_implies, List.take_succ_cons, List.drop_succ_cons,
              List.take_zero, List.drop_zero, Bool.not_true, Bool.not_false, beq_self_eq_true, decide_true, decide_false, eq_self, Int.reduceEq, Int.reduceLE, Int.reduceLT,
              Bool.not_not, Bool.true_or, Bool.or_true, Bool.false_or, Bool.or_false, if_true, if_false, List.getElem?_nil, Kl_normal, Kl_exit, Kl_ret, fc82_0, fc82_1, fc82_2,
              fc82_3, fc82_4, fc82_5, fc82_6, fc82_7, fc82_8, fc82_9, fc82_10, fc82_11, fc82_12, fc82_13, fc82_14, fc82_15, fc82_16, fc82_17, fc82_18, fc82_19, fc82_20, fc82_21,
              fc82_22, fc82_23, fc82_24, cast_lit, toNat_lit, Int.reduceAdd, Int.reduceSub, Int.reduceMul, Int.reduceNeg, Int.reducePow, Nat.reducePow, Int.reduceToNat,
              Nat.reduceSub, Nat.mul_one, Int.toNat_zero, prod_eta, List.nil_append, List.cons_append, List.append_nil, vconv, vmm, vidxA, viaddrA, iaddr_sl, iaddr_lsl, getE,
              vfield, vlen, fillC, fillE, List.replicate, elemsOf, List.length_map, f2iK_eq, bits_i64, bits_i32, bits_u64, bits_u32, bits_u8, e_alloc, g_alloc, e_build, g_build,
              e_store, g_store]))
    all_goals (try simp only [*, m_spec_l02No, Bool.and_true, Bool.true_and, Bool.and_false, Bool.false_and, Bool.or_true, Bool.true_or, Bool.or_false, Bool.false_or, Bool.not_true, Bool.not_false, Bool.false_eq_true, if_true, if_false, reduceIte, decide_true, decide_false])
    all_goals (try (simp_all; done))
  · cases h
theorem s92 : ∀ vs r, g_f64from vs = some r → Says Try.prog 92 vs r := t_f64from Try.func92 (by kernel_rfl) rfl (by kernel_rfl) (by kernel_rfl)
def m_math_NaN  : Nat := (cn .f64 (Int.toNat 9221120237041090561))
def g_math_NaN : List AV → Option AV
  | [] => some (.flt .f64 (m_math_NaN))
  | _ => none
def ic73 : ICode := (.seq (.reg [⟨(some 0), none, (.mov (.c (.flt .f64 0)))⟩] []) (.seq (.reg [⟨(some 1), none, (.call (.fn 92) [(.c (.int .u64 9221120237041090561))] [])⟩, ⟨(some
      0), none, (.mov (.t 1))⟩] [0]) .ret))
def cp73 : CP := { n := 2, kp := [[], [0]] }
theorem fc73_0 : IntKind.wrap .i64 0 = 0 := by decide
theorem fc73_1 : IntKind.wrap .i64 1 = 1 := by decide
theorem fc73_2 : IntKind.wrap .i64 10 = 10 := by decide
theorem fc73_3 : IntKind.wrap .i64 11 = 11 := by decide
theorem fc73_4 : IntKind.wrap .i64 110 = 110 := by decide
theorem fc73_5 : IntKind.wrap .i64 12 = 12 := by decide
theorem fc73_6 : IntKind.wrap .i64 13 = 13 := by decide
theorem fc73_7 : IntKind.wrap .i64 14 = 14 := by decide
theorem fc73_8 : IntKind.wrap .i64 15 = 15 := by decide
theorem fc73_9 : IntKind.wrap .i64 156 = 156 := by decide
theorem fc73_10 : IntKind.wrap .i64 16 = 16 := by decide
theorem fc73_11 : IntKind.wrap .i64 17 = 17 := by decide
theorem fc73_12 : IntKind.wrap .i64 2 = 2 := by decide
theorem fc73_13 : IntKind.wrap .i64 20 = 20 := by decide
theorem fc73_14 : IntKind.wrap .i64 210 = 210 := by decide
theorem fc73_15 : IntKind.wrap .i64 272 = 272 := by decide
theorem fc73_16 : IntKind.wrap .i64 3 = 3 := by decide
theorem fc73_17 : IntKind.wrap .i64 4 = 4 := by decide
theorem fc73_18 : IntKind.wrap .i64 42 = 42 := by decide
theorem fc73_19 : IntKind.wrap .i64 5 = 5 := by decide
theorem fc73_20 : IntKind.wrap .i64 6 = 6 := by decide
theorem fc73_21 : IntKind.wrap .i64 7 = 7 := by decide
theorem fc73_22 : IntKind.wrap .i64 72 = 72 := by decide
theorem fc73_23 : IntKind.wrap .i64 8 = 8 := by decide
theorem fc73_24 : IntKind.wrap .i64 9 = 9 := by decide
theorem s73 : ∀ vs r, g_math_NaN vs = some r → Says Try.prog 73 vs r := by
  intro vs r h
  unfold g_math_NaN at h
  split at h
  · cases h
    refine spec_of (tab := tabOf [(92, g_f64from)]) (cp := cp73) (ic := ic73) (rvl := [(.t 0)]) hm (tabOk_cons s92 tabOk_nil) Try.func73 rfl rfl rfl (by kernel_rfl) rfl (Nat.le_of_ble_eq_true rfl) ?_
    show eA _ _ _ _
    unfold ic73
    simp only [
        eA_seq, eA_reg, eA_ret, eA_skip, eA_cond, eA_block, eA_exit, eCc_true, eCc_false, Kq_normal, Kq_ret, Kq_exit, Kb_normal, Kb_exit, Kb_ret, Kreg_eq, eI_nil, bindSt_some,
              bindSt_none, bindSt_ite, eR_eq, eGI_tt, eGI_ff, eGI_tf, eGI_ft, eop, vop, ev_t, ev_c, ev_f, Option.map, put_some, put_none, set_eq, setH_eq, get_eq, hp_eq, keep_cons,
              keep_nil, lk_cons, lk_nil, startSt, envOf, reduceIte, Nat.reduceEqDiff, Nat.reduceAdd, Nat.zero_add, Nat.add_zero, Nat.reduceMul, Nat.reduceLT, Nat.reduceLeDiff, bop,
              uop, intop, fltop, convop, true_or, or_true, Bool.false_eq_true, ret_ok, ret_normal, outV, rvV, rvs, ex_some, pureV, pureX, pureX.pure1', pure1, Bool.true_and,
              Bool.false_and, Bool.and_true, Bool.and_false, Option.isNone_none, AV.cells, AV.one, storable, laid, refless, refless1, List.all_cons, List.all_nil, List.length_cons,
              List.length_nil, List.getElem?_cons_zero, List.getElem?_cons_succ, List.set_cons_zero, List.set_cons_succ, List.set_nil, List.map_cons, List.map_nil, vload, loadC,
              storeC, vnil, vfaddr, vextract, callTo, List.mapM_cons, List.mapM_nil, Option.pure_def, Option.bind_eq_bind, Option.bind_some, tabOf_cons, flatT, flatE, flatC,
              and_self, and_true, true_and, implies_true, forall_const, not_true_eq_false, not_false_eq_true, false_implies, List.take_succ_cons, List.drop_succ_cons,
              List.take_zero, List.drop_zero, Bool.not_true, Bool.not_false, beq_self_eq_true, decide_true, decide_false, eq_self, Int.reduceEq, Int.reduceLE, Int.reduceLT,
              Bool.not_not, Bool.true_or, Bool.or_true, Bool.false_or, Bool.or_false, if_true, if_false, List.getElem?_nil, Kl_normal, Kl_exit, Kl_ret, fc73_0, fc73_1, fc73_2,
              fc73_3, fc73_4, fc73_5, fc73_6, fc73_7, fc73_8, fc73_9, fc73_10, fc73_11, fc73_12, fc73_13, fc73_14, fc73_15, fc73_16, fc73_17, fc73_18, fc73_19, fc73_20, fc73_21,
              fc73_22, fc73_23, fc73_24, cast_lit, toNat_lit, Int.reduceAdd, Int.reduceSub, Int.reduceMul, Int.reduceNeg, Int.reducePow, Nat.reducePow, Int.reduceToNat,
              Nat.reduceSub, Nat.mul_one, Int.toNat_zero, prod_eta, List.nil_append, List.cons_append, List.append_nil, vconv, vmm, vidxA, viaddrA, iaddr_sl, iaddr_lsl, getE,
              vfield, vlen, fillC, fillE, List.replicate, elemsOf, List.length_map, f2iK_eq, bits_i64, bits_i32, bits_u64, bits_u32, bits_u8, e_mov, g_mov, e_call, g_call, g_f64from]
    repeat' (first
      | ((first | (refine eGI_of (fun h => ?_) (fun h => ?_)) | (refine eCc_of (fun h => ?_) (fun h => ?_))) <;> (try simp only [Bool.not_eq_true', Bool.not_eq_false'] at h) <;> simp only [h,
        eA_seq, eA_reg, eA_ret, eA_skip, eA_cond, eA_block, eA_exit, eCc_true, eCc_false, Kq_normal, Kq_ret, Kq_exit, Kb_normal, Kb_exit, Kb_ret, Kreg_eq, eI_nil, bindSt_some,
              bindSt_none, bindSt_ite, eR_eq, eGI_tt, eGI_ff, eGI_tf, eGI_ft, eop, vop, ev_t, ev_c, ev_f, Option.map, put_some, put_none, set_eq, setH_eq, get_eq, hp_eq, keep_cons,
              keep_nil, lk_cons, lk_nil, startSt, envOf, reduceIte, Nat.reduceEqDiff, Nat.reduceAdd, Nat.zero_add, Nat.add_zero, Nat.reduceMul, Nat.reduceLT, Nat.reduceLeDiff, bop,
              uop, intop, fltop, convop, true_or, or_true, Bool.false_eq_true, ret_ok, ret_normal, outV, rvV, rvs, ex_some, pureV, pureX, pureX.pure1', pure1, Bool.true_and,
              Bool.false_and, Bool.and_true, Bool.and_false, Option.isNone_none, AV.cells, AV.one, storable, laid, refless, refless1, List.all_cons, List.all_nil, List.length_cons,
              List.length_nil, List.getElem?_cons_zero, List.getElem?_cons_succ, List.set_cons_zero, List.set_cons_succ, List.set_nil, List.map_cons, List.map_nil, vload, loadC,
              storeC, vnil, vfaddr, vextract, callTo, List.mapM_cons, List.mapM_nil, Option.pure_def, Option.bind_eq_bind, Option.bind_some, tabOf_cons, flatT, flatE, flatC,
              and_self, and_true, true_and, implies_true, forall_const, not_true_eq_false, not_false_eq_true, false_implies, List.take_succ_cons, List.drop_succ_cons,
              List.take_zero, List.drop_zero, Bool.not_true, Bool.not_false, beq_self_eq_true, decide_true, decide_false, eq_self, Int.reduceEq, Int.reduceLE, Int.reduceLT,
              Bool.not_not, Bool.true_or, Bool.or_true, Bool.false_or, Bool.or_false, if_true, if_false, List.getElem?_nil, Kl_normal, Kl_exit, Kl_ret, fc73_0, fc73_1, fc73_2,
              fc73_3, fc73_4, fc73_5, fc73_6, fc73_7, fc73_8, fc73_9, fc73_10, fc73_11, fc73_12, fc73_13, fc73_14, fc73_15, fc73_16, fc73_17, fc73_18, fc73_19, fc73_20, fc73_21,
              fc73_22, fc73_23, fc73_24, cast_lit, toNat_lit, Int.reduceAdd, Int.reduceSub, Int.reduceMul, Int.reduceNeg, Int.reducePow, Nat.reducePow, Int.reduceToNat,
              Nat.reduceSub, Nat.mul_one, Int.toNat_zero, prod_eta, List.nil_append, List.cons_append, List.append_nil, vconv, vmm, vidxA, viaddrA, iaddr_sl, iaddr_lsl, getE,
              vfield, vlen, fillC, fillE, List.replicate, elemsOf, List.length_map, f2iK_eq, bits_i64, bits_i32, bits_u64, bits_u32, bits_u8, e_mov, g_mov, e_call, g_call, g_f64from]))
    all_goals (try simp only [*, m_math_NaN, Bool.and_true, Bool.true_and, Bool.and_false, Bool.false_and, Bool.or_true, Bool.true_or, Bool.or_false, Bool.false_or, Bool.not_true, Bool.not_false, Bool.false_eq_true, if_true, if_false, reduceIte, decide_true, decide_false])
    all_goals (try (simp_all; done))
  · cases h
def v_spec_l01SineWide_0 (x0 : Nat) : Nat := (if (flt .f64 (fsub .f64 x0 (ofInt .f64 (f2iV .f64 x0))) 0) = true then (fadd .f64 (fsub .f64 x0 (ofInt .f64 (f2iV .f64 x0)))
      4607182418800017408) else (fsub .f64 x0 (ofInt .f64 (f2iV .f64 x0))))
def v_spec_l01SineWide_1 (x0 : Nat) : Nat := (if (fle .f64 4602678819172646912 (v_spec_l01SineWide_0 x0)) = true then (fsub .f64 (v_spec_l01SineWide_0 x0) 4602678819172646912) else
      (v_spec_l01SineWide_0 x0))
def v_spec_l01SineWide_2 (x0 : Nat) : Nat := (if (flt .f64 4598175219545276416 (v_spec_l01SineWide_1 x0)) = true then (fsub .f64 4602678819172646912 (v_spec_l01SineWide_1 x0)) else
      (v_spec_l01SineWide_1 x0))
def v_spec_l01SineWide_3 (x0 : Nat) : Nat := (fdiv .f64 (fmul .f64 (fmul .f64 (fmul .f64 (v_spec_l01SineWide_2 x0) 4618760256179416344) (fmul .f64 (v_spec_l01SineWide_2 x0)
      4618760256179416344)) 4607182418800017408) (ofInt .f64 272))
def v_spec_l01SineWide_4 (x0 : Nat) : Nat := (fmul .f64 (fmul .f64 (fmul .f64 (v_spec_l01SineWide_2 x0) 4618760256179416344) (fmul .f64 (v_spec_l01SineWide_2 x0)
      4618760256179416344)) (fsub .f64 4607182418800017408 (v_spec_l01SineWide_3 x0)))
def v_spec_l01SineWide_5 (x0 : Nat) : Nat := (fmul .f64 (fmul .f64 (fmul .f64 (v_spec_l01SineWide_2 x0) 4618760256179416344) (fmul .f64 (v_spec_l01SineWide_2 x0)
      4618760256179416344)) (fsub .f64 4607182418800017408 (fdiv .f64 (v_spec_l01SineWide_4 x0) (ofInt .f64 210))))
def v_spec_l01SineWide_6 (x0 : Nat) : Nat := (fmul .f64 (fmul .f64 (fmul .f64 (v_spec_l01SineWide_2 x0) 4618760256179416344) (fmul .f64 (v_spec_l01SineWide_2 x0)
      4618760256179416344)) (fsub .f64 4607182418800017408 (fdiv .f64 (v_spec_l01SineWide_5 x0) (ofInt .f64 156))))
def v_spec_l01SineWide_7 (x0 : Nat) : Nat := (fmul .f64 (fmul .f64 (fmul .f64 (v_spec_l01SineWide_2 x0) 4618760256179416344) (fmul .f64 (v_spec_l01SineWide_2 x0)
      4618760256179416344)) (fsub .f64 4607182418800017408 (fdiv .f64 (v_spec_l01SineWide_6 x0) (ofInt .f64 110))))
def v_spec_l01SineWide_8 (x0 : Nat) : Nat := (fmul .f64 (fmul .f64 (fmul .f64 (v_spec_l01SineWide_2 x0) 4618760256179416344) (fmul .f64 (v_spec_l01SineWide_2 x0)
      4618760256179416344)) (fsub .f64 4607182418800017408 (fdiv .f64 (v_spec_l01SineWide_7 x0) (ofInt .f64 72))))
def v_spec_l01SineWide_9 (x0 : Nat) : Nat := (fmul .f64 (fmul .f64 (fmul .f64 (v_spec_l01SineWide_2 x0) 4618760256179416344) (fmul .f64 (v_spec_l01SineWide_2 x0)
      4618760256179416344)) (fsub .f64 4607182418800017408 (fdiv .f64 (v_spec_l01SineWide_8 x0) (ofInt .f64 42))))
def v_spec_l01SineWide_10 (x0 : Nat) : Nat := (fmul .f64 (fmul .f64 (fmul .f64 (v_spec_l01SineWide_2 x0) 4618760256179416344) (fmul .f64 (v_spec_l01SineWide_2 x0)
      4618760256179416344)) (fsub .f64 4607182418800017408 (fdiv .f64 (v_spec_l01SineWide_9 x0) (ofInt .f64 20))))
def v_spec_l01SineWide_11 (x0 : Nat) : Nat := (fneg .f64 (fmul .f64 (fmul .f64 (v_spec_l01SineWide_2 x0) 4618760256179416344) (fsub .f64 4607182418800017408 (fdiv .f64
      (v_spec_l01SineWide_10 x0) (ofInt .f64 6)))))
def m_spec_l01SineWide (x0 : Nat) : Nat := (if (feq .f64 (fsub .f64 x0 x0) 0) = true then (if (fle .f64 4841369599423283200 x0) = true then 0 else (if (fle .f64 x0
      14064741636278059008) = true then 0 else (if (fle .f64 4602678819172646912 (v_spec_l01SineWide_0 x0)) = true then (v_spec_l01SineWide_11 x0) else (fmul .f64 (fmul .f64
      (v_spec_l01SineWide_2 x0) 4618760256179416344) (fsub .f64 4607182418800017408 (fdiv .f64 (v_spec_l01SineWide_10 x0) (ofInt .f64 6))))))) else (m_math_NaN))
def p_spec_l01SineWide (x0 : Nat) : Bool := (!(feq .f64 (fsub .f64 x0 x0) 0) || ((fle .f64 4841369599423283200 x0) || ((fle .f64 x0 14064741636278059008) || (f2iOk .i64 .f64 x0))))
def g_spec_l01SineWide : List AV → Option AV
  | [.flt .f64 y0] => if p_spec_l01SineWide y0 = true then some (.flt .f64 (m_spec_l01SineWide y0)) else none
  | _ => none
def ic83 : ICode := (.seq (.reg [⟨(some 2), none, (.mov (.c (.flt .f64 0)))⟩] [0]) (.seq (.seq (.reg [⟨(some 9), none, (.mov (.t 0))⟩, ⟨(some 10), none, (.mov (.t 0))⟩, ⟨(some 11),
      none, (.bin .sub false (.t 9) (.t 10))⟩, ⟨(some 12), none, (.bin .neq false (.t 11) (.c (.flt .f64 0)))⟩] [0, 12]) (.cond (.t 12) (.seq (.reg [⟨(some 13), none, (.call (.fn
      73) [] [])⟩, ⟨(some 2), none, (.mov (.t 13))⟩] [2]) .ret) .skip)) (.seq (.seq (.reg [⟨(some 14), none, (.mov (.t 0))⟩, ⟨(some 15), none, (.bin .geq false (.t 14) (.c (.flt
      .f64 4841369599423283200)))⟩, ⟨(some 16), none, (.mov (.t 15))⟩, ⟨(some 17), (some (16, false)), (.mov (.t 0))⟩, ⟨(some 18), (some (16, false)), (.bin .leq false (.t 17) (.c
      (.flt .f64 14064741636278059008)))⟩, ⟨(some 19), none, (.pick (.t 16) (.c (.bool true)) (.t 18))⟩] [0, 19]) (.cond (.t 19) (.seq (.reg [⟨(some 2), none, (.mov (.c (.flt .f64
      0)))⟩] [2]) .ret) .skip)) (.seq (.reg [⟨(some 20), none, (.mov (.t 0))⟩, ⟨(some 21), none, (.mov (.t 0))⟩, ⟨(some 22), none, (.conv (.int .i64) (.t 21))⟩, ⟨(some 23), none,
      (.conv (.flt .f64) (.t 22))⟩, ⟨(some 24), none, (.bin .sub false (.t 20) (.t 23))⟩, ⟨(some 3), none, (.mov (.t 24))⟩] [3]) (.seq (.seq (.reg [⟨(some 25), none, (.mov (.t 3))⟩,
      ⟨(some 26), none, (.bin .lss false (.t 25) (.c (.flt .f64 0)))⟩] [3, 26]) (.cond (.t 26) (.reg [⟨(some 27), none, (.mov (.t 3))⟩, ⟨(some 28), none, (.bin .add false (.t 27)
      (.c (.flt .f64 4607182418800017408)))⟩, ⟨(some 3), none, (.mov (.t 28))⟩] [3]) .skip)) (.seq (.reg [⟨(some 29), none, (.mov (.t 3))⟩, ⟨(some 30), none, (.bin .geq false (.t
      29) (.c (.flt .f64 4602678819172646912)))⟩, ⟨(some 4), none, (.mov (.t 30))⟩] [3, 4]) (.seq (.seq (.reg [⟨(some 31), none, (.mov (.t 4))⟩] [3, 4, 31]) (.cond (.t 31) (.reg
      [⟨(some 32), none, (.mov (.t 3))⟩, ⟨(some 33), none, (.bin .sub false (.t 32) (.c (.flt .f64 4602678819172646912)))⟩, ⟨(some 3), none, (.mov (.t 33))⟩] [3, 4]) .skip)) (.seq
      (.seq (.reg [⟨(some 34), none, (.mov (.t 3))⟩, ⟨(some 35), none, (.bin .gtr false (.t 34) (.c (.flt .f64 4598175219545276416)))⟩] [3, 4, 35]) (.cond (.t 35) (.reg [⟨(some 36),
      none, (.mov (.t 3))⟩, ⟨(some 37), none, (.bin .sub false (.c (.flt .f64 4602678819172646912)) (.t 36))⟩, ⟨(some 3), none, (.mov (.t 37))⟩] [3, 4]) .skip)) (.seq (.reg [⟨(some
      38), none, (.mov (.t 3))⟩, ⟨(some 39), none, (.bin .mul false (.t 38) (.c (.flt .f64 4618760256179416344)))⟩, ⟨(some 5), none, (.mov (.t 39))⟩] [4, 5]) (.seq (.reg [⟨(some
      40), none, (.mov (.t 5))⟩, ⟨(some 41), none, (.mov (.t 5))⟩, ⟨(some 42), none, (.bin .mul false (.t 40) (.t 41))⟩, ⟨(some 6), none, (.mov (.t 42))⟩] [4, 5, 6]) (.seq (.reg
      [⟨(some 7), none, (.mov (.c (.flt .f64 4607182418800017408)))⟩] [4, 5, 6, 7]) (.seq (.seq (.reg [⟨(some 8), none, (.mov (.c (.int .i64 8)))⟩] [4, 5, 6, 7, 8]) (.block 0 (.loop
      (.seq (.seq (.reg [⟨(some 43), none, (.mov (.t 8))⟩, ⟨(some 44), none, (.bin .geq false (.t 43) (.c (.int .i64 1)))⟩] [4, 5, 6, 7, 8, 44]) (.cond (.t 44) .skip (.exit 0)))
      (.seq (.block 1 (.reg [⟨(some 47), none, (.mov (.t 6))⟩, ⟨(some 48), none, (.mov (.t 7))⟩, ⟨(some 49), none, (.bin .mul false (.t 47) (.t 48))⟩, ⟨(some 50), none, (.mov (.t
      8))⟩, ⟨(some 51), none, (.bin .mul false (.c (.int .i64 2)) (.t 50))⟩, ⟨(some 52), none, (.mov (.t 8))⟩, ⟨(some 53), none, (.bin .mul false (.c (.int .i64 2)) (.t 52))⟩,
      ⟨(some 54), none, (.bin .add false (.t 53) (.c (.int .i64 1)))⟩, ⟨(some 55), none, (.bin .mul false (.t 51) (.t 54))⟩, ⟨(some 56), none, (.conv (.flt .f64) (.t 55))⟩, ⟨(some
      57), none, (.bin .quo false (.t 49) (.t 56))⟩, ⟨(some 58), none, (.bin .sub false (.c (.flt .f64 4607182418800017408)) (.t 57))⟩, ⟨(some 7), none, (.mov (.t 58))⟩] [4, 5, 6,
      7, 8])) (.reg [⟨(some 45), none, (.mov (.t 8))⟩, ⟨(some 46), none, (.bin .sub false (.t 45) (.c (.int .i64 1)))⟩, ⟨(some 8), none, (.mov (.t 46))⟩] [4, 5, 6, 7, 8])))))) (.seq
      (.seq (.reg [⟨(some 59), none, (.mov (.t 4))⟩] [5, 7, 59]) (.cond (.t 59) (.seq (.reg [⟨(some 60), none, (.mov (.t 5))⟩, ⟨(some 61), none, (.mov (.t 7))⟩, ⟨(some 62), none,
      (.bin .mul false (.t 60) (.t 61))⟩, ⟨(some 63), none, (.un .neg (.t 62))⟩, ⟨(some 2), none, (.mov (.t 63))⟩] [2]) .ret) .skip)) (.seq (.reg [⟨(some 64), none, (.mov (.t 5))⟩,
      ⟨(some 65), none, (.mov (.t 7))⟩, ⟨(some 66), none, (.bin .mul false (.t 64) (.t 65))⟩, ⟨(some 2), none, (.mov (.t 66))⟩] [2]) .ret))))))))))))))
def cp83 : CP := { n := 67, kp := [[0], [0, 12], [2], [0, 19], [2], [3], [3, 26], [3], [3, 4], [3, 4, 31], [3, 4], [3, 4, 35], [3, 4], [4, 5], [4, 5, 6], [4, 5, 6, 7], [4, 5, 6, 7,
      8], [4, 5, 6, 7, 8, 44], [4, 5, 6, 7, 8], [4, 5, 6, 7, 8], [5, 7, 59], [2], [2]] }
theorem fc83_0 : IntKind.wrap .i64 0 = 0 := by decide
theorem fc83_1 : IntKind.wrap .i64 1 = 1 := by decide
theorem fc83_2 : IntKind.wrap .i64 10 = 10 := by decide
theorem fc83_3 : IntKind.wrap .i64 11 = 11 := by decide
theorem fc83_4 : IntKind.wrap .i64 110 = 110 := by decide
theorem fc83_5 : IntKind.wrap .i64 12 = 12 := by decide
theorem fc83_6 : IntKind.wrap .i64 13 = 13 := by decide
theorem fc83_7 : IntKind.wrap .i64 14 = 14 := by decide
theorem fc83_8 : IntKind.wrap .i64 15 = 15 := by decide
theorem fc83_9 : IntKind.wrap .i64 156 = 156 := by decide
theorem fc83_10 : IntKind.wrap .i64 16 = 16 := by decide
theorem fc83_11 : IntKind.wrap .i64 17 = 17 := by decide
theorem fc83_12 : IntKind.wrap .i64 2 = 2 := by decide
theorem fc83_13 : IntKind.wrap .i64 20 = 20 := by decide
theorem fc83_14 : IntKind.wrap .i64 210 = 210 := by decide
theorem fc83_15 : IntKind.wrap .i64 272 = 272 := by decide
theorem fc83_16 : IntKind.wrap .i64 3 = 3 := by decide
theorem fc83_17 : IntKind.wrap .i64 4 = 4 := by decide
theorem fc83_18 : IntKind.wrap .i64 42 = 42 := by decide
theorem fc83_19 : IntKind.wrap .i64 5 = 5 := by decide
theorem fc83_20 : IntKind.wrap .i64 6 = 6 := by decide
theorem fc83_21 : IntKind.wrap .i64 7 = 7 := by decide
theorem fc83_22 : IntKind.wrap .i64 72 = 72 := by decide
theorem fc83_23 : IntKind.wrap .i64 8 = 8 := by decide
theorem fc83_24 : IntKind.wrap .i64 9 = 9 := by decide
theorem s83 : ∀ vs r, g_spec_l01SineWide vs = some r → Says Try.prog 83 vs r := by
  intro vs r h
  unfold g_spec_l01SineWide at h
  split at h
  · rename_i y0
    split at h
    · rename_i hp
      cases h
      refine spec_of (tab := tabOf [(73, g_math_NaN)]) (cp := cp83) (ic := ic83) (rvl := [(.t 2)]) hm (tabOk_cons s73 tabOk_nil) Try.func83 rfl rfl rfl (by kernel_rfl) rfl (Nat.le_of_ble_eq_true rfl) ?_
      show eA _ _ _ _
      unfold ic83
      simp only [p_spec_l01SineWide, v_spec_l01SineWide_0, v_spec_l01SineWide_1, v_spec_l01SineWide_2, v_spec_l01SineWide_3, v_spec_l01SineWide_4, v_spec_l01SineWide_5, v_spec_l01SineWide_6, v_spec_l01SineWide_7, v_spec_l01SineWide_8, v_spec_l01SineWide_9, v_spec_l01SineWide_10, v_spec_l01SineWide_11, Bool.and_eq_true, Bool.or_eq_true, decide_eq_true_eq, Bool.not_eq_true', decide_eq_false_iff_not] at hp
      simp only [
          hp, eA_seq, eA_reg, eA_ret, eA_skip, eA_cond, eA_block, eA_exit, eCc_true, eCc_false, Kq_normal, Kq_ret, Kq_exit, Kb_normal, Kb_exit, Kb_ret, Kreg_eq, eI_nil, bindSt_some,
                bindSt_none, bindSt_ite, eR_eq, eGI_tt, eGI_ff, eGI_tf, eGI_ft, eop, vop, ev_t, ev_c, ev_f, Option.map, put_some, put_none, set_eq, setH_eq, get_eq, hp_eq,
                keep_cons, keep_nil, lk_cons, lk_nil, startSt, envOf, reduceIte, Nat.reduceEqDiff, Nat.reduceAdd, Nat.zero_add, Nat.add_zero, Nat.reduceMul, Nat.reduceLT,
                Nat.reduceLeDiff, bop, uop, intop, fltop, convop, true_or, or_true, Bool.false_eq_true, ret_ok, ret_normal, outV, rvV, rvs, ex_some, pureV, pureX, pureX.pure1',
                pure1, Bool.true_and, Bool.false_and, Bool.and_true, Bool.and_false, Option.isNone_none, AV.cells, AV.one, storable, laid, refless, refless1, List.all_cons,
                List.all_nil, List.length_cons, List.length_nil, List.getElem?_cons_zero, List.getElem?_cons_succ, List.set_cons_zero, List.set_cons_succ, List.set_nil,
                List.map_cons, List.map_nil, vload, loadC, storeC, vnil, vfaddr, vextract, callTo, List.mapM_cons, List.mapM_nil, Option.pure_def, Option.bind_eq_bind,
                Option.bind_some, tabOf_cons, flatT, flatE, flatC, and_self, and_true, true_and, implies_true, forall_const, not_true_eq_false, not_false_eq_true, false_implies,
                List.take_succ_cons, List.drop_succ_cons, List.take_zero, List.drop_zero, Bool.not_true, Bool.not_false, beq_self_eq_true, decide_true, decide_false, eq_self,
                Int.reduceEq, Int.reduceLE, Int.reduceLT, Bool.not_not, Bool.true_or, Bool.or_true, Bool.false_or, Bool.or_false, if_true, if_false, List.getElem?_nil, Kl_normal,
                Kl_exit, Kl_ret, fc83_0, fc83_1, fc83_2, fc83_3, fc83_4, fc83_5, fc83_6, fc83_7, fc83_8, fc83_9, fc83_10, fc83_11, fc83_12, fc83_13, fc83_14, fc83_15, fc83_16,
                fc83_17, fc83_18, fc83_19, fc83_20, fc83_21, fc83_22, fc83_23, fc83_24, cast_lit, toNat_lit, Int.reduceAdd, Int.reduceSub, Int.reduceMul, Int.reduceNeg,
                Int.reducePow, Nat.reducePow, Int.reduceToNat, Nat.reduceSub, Nat.mul_one, Int.toNat_zero, prod_eta, List.nil_append, List.cons_append, List.append_nil, vconv, vmm,
                vidxA, viaddrA, iaddr_sl, iaddr_lsl, getE, vfield, vlen, fillC, fillE, List.replicate, elemsOf, List.length_map, f2iK_eq, bits_i64, bits_i32, bits_u64, bits_u32,
                bits_u8, e_mov, g_mov, e_pick, g_pick, e_bin, g_bin, e_un, g_un, e_conv, g_conv, e_call, g_call, g_math_NaN, ↓b_pick, ePk_true, ePk_false]
      repeat' (first
        | ((first | (refine eGI_of (fun h => ?_) (fun h => ?_)) | (refine eCc_of (fun h => ?_) (fun h => ?_)) | (refine ePk_of (fun h => ?_) (fun h => ?_)) | (have h := True.intro; refine KW_refl ?_) | (have h := True.intro; refine eA_loop ?_)) <;> (try simp only [Bool.not_eq_true', Bool.not_eq_false'] at h) <;> (try simp only [h, reduceCtorEq, Bool.not_eq_true', decide_eq_false_iff_not, Bool.not_true, Bool.not_false, Bool.false_or, Bool.true_or, Bool.true_and, Bool.false_and, Bool.and_eq_true, Bool.or_eq_true, if_true, if_false, reduceIte, Bool.false_eq_true, and_true, true_and, false_or, or_false, decide_eq_true_eq, not_false_eq_true, not_true_eq_false] at hp) <;> (try (have h2 := h; simp only [decide_eq_true_eq, decide_eq_false_iff_not] at h2; simp only [h2, if_true, if_false, false_or, true_or, or_true, or_false, and_true, true_and, not_false_eq_true, not_true_eq_false] at hp)) <;> simp only [h,
          hp, eA_seq, eA_reg, eA_ret, eA_skip, eA_cond, eA_block, eA_exit, eCc_true, eCc_false, Kq_normal, Kq_ret, Kq_exit, Kb_normal, Kb_exit, Kb_ret, Kreg_eq, eI_nil, bindSt_some,
                bindSt_none, bindSt_ite, eR_eq, eGI_tt, eGI_ff, eGI_tf, eGI_ft, eop, vop, ev_t, ev_c, ev_f, Option.map, put_some, put_none, set_eq, setH_eq, get_eq, hp_eq,
                keep_cons, keep_nil, lk_cons, lk_nil, startSt, envOf, reduceIte, Nat.reduceEqDiff, Nat.reduceAdd, Nat.zero_add, Nat.add_zero, Nat.reduceMul, Nat.reduceLT,
                Nat.reduceLeDiff, bop, uop, intop, fltop, convop, true_or, or_true, Bool.false_eq_true, ret_ok, ret_normal, outV, rvV, rvs, ex_some, pureV, pureX, pureX.pure1',
                pure1, Bool.true_and, Bool.false_and, Bool.and_true, Bool.and_false, Option.isNone_none, AV.cells, AV.one, storable, laid, refless, refless1, List.all_cons,
                List.all_nil, List.length_cons, List.length_nil, List.getElem?_cons_zero, List.getElem?_cons_succ, List.set_cons_zero, List.set_cons_succ, List.set_nil,
                List.map_cons, List.map_nil, vload, loadC, storeC, vnil, vfaddr, vextract, callTo, List.mapM_cons, List.mapM_nil, Option.pure_def, Option.bind_eq_bind,
                Option.bind_some, tabOf_cons, flatT, flatE, flatC, and_self, and_true, true_and, implies_true, forall_const, not_true_eq_false, not_false_eq_true, false_implies,
                List.take_succ_cons, List.drop_succ_cons, List.take_zero, List.drop_zero, Bool.not_true, Bool.not_false, beq_self_eq_true, decide_true, decide_false, eq_self,
                Int.reduceEq, Int.reduceLE, Int.reduceLT, Bool.not_not, Bool.true_or, Bool.or_true, Bool.false_or, Bool.or_false, if_true, if_false, List.getElem?_nil, Kl_normal,
                Kl_exit, Kl_ret, fc83_0, fc83_1, fc83_2, fc83_3, fc83_4, fc83_5, fc83_6, fc83_7, fc83_8, fc83_9, fc83_10, fc83_11, fc83_12, fc83_13, fc83_14, fc83_15, fc83_16,
                fc83_17, fc83_18, fc83_19, fc83_20, fc83_21, fc83_22, fc83_23, fc83_24, cast_lit, toNat_lit, Int.reduceAdd, Int.reduceSub, Int.reduceMul, Int.reduceNeg,
                Int.reducePow, Nat.reducePow, Int.reduceToNat, Nat.reduceSub, Nat.mul_one, Int.toNat_zero, prod_eta, List.nil_append, List.cons_append, List.append_nil, vconv, vmm,
                vidxA, viaddrA, iaddr_sl, iaddr_lsl, getE, vfield, vlen, fillC, fillE, List.replicate, elemsOf, List.length_map, f2iK_eq, bits_i64, bits_i32, bits_u64, bits_u32,
                bits_u8, e_mov, g_mov, e_pick, g_pick, e_bin, g_bin, e_un, g_un, e_conv, g_conv, e_call, g_call, g_math_NaN, ↓b_pick, ePk_true, ePk_false]))
      all_goals (try simp only [*, m_spec_l01SineWide, v_spec_l01SineWide_0, v_spec_l01SineWide_1, v_spec_l01SineWide_2, v_spec_l01SineWide_3, v_spec_l01SineWide_4, v_spec_l01SineWide_5, v_spec_l01SineWide_6, v_spec_l01SineWide_7, v_spec_l01SineWide_8, v_spec_l01SineWide_9, v_spec_l01SineWide_10, v_spec_l01SineWide_11, Bool.and_true, Bool.true_and, Bool.and_false, Bool.false_and, Bool.or_true, Bool.true_or, Bool.or_false, Bool.false_or, Bool.not_true, Bool.not_false, Bool.false_eq_true, if_true, if_false, reduceIte, decide_true, decide_false])
      all_goals (try (simp_all; done))
    · cases h
  · cases h
def m_spec_l02About (x0 : (Nat × Nat × Nat)) (x1 : Nat) : (Nat × Nat × Nat × Nat) := (if (feq .f32 (m_spec_l01Long x0) 0) = true then (m_spec_l02No) else (if (m_spec_l01Finite
      (m_spec_l01Long x0)) = true then ((m_spec_l01Narrow (m_spec_l01SineWide (fadd .f64 (fdiv .f64 (widen x1) 4611686018427387904) 4598175219545276416))), (fmul .f32 (fdiv .f32
      x0.1 (m_spec_l01Long x0)) (m_spec_l01Narrow (m_spec_l01SineWide (fdiv .f64 (widen x1) 4611686018427387904)))), (fmul .f32 (fdiv .f32 x0.2.1 (m_spec_l01Long x0))
      (m_spec_l01Narrow (m_spec_l01SineWide (fdiv .f64 (widen x1) 4611686018427387904)))), (fmul .f32 (fdiv .f32 x0.2.2 (m_spec_l01Long x0)) (m_spec_l01Narrow (m_spec_l01SineWide
      (fdiv .f64 (widen x1) 4611686018427387904))))) else (m_spec_l02No)))
def p_spec_l02About (x0 : (Nat × Nat × Nat)) (x1 : Nat) : Bool := ((p_spec_l01Long x0) && ((feq .f32 (m_spec_l01Long x0) 0) || (!(m_spec_l01Finite (m_spec_l01Long x0)) ||
      ((p_spec_l01SineWide (fdiv .f64 (widen x1) 4611686018427387904)) && ((p_spec_l01Narrow (m_spec_l01SineWide (fdiv .f64 (widen x1) 4611686018427387904))) && ((p_spec_l01SineWide
      (fadd .f64 (fdiv .f64 (widen x1) 4611686018427387904) 4598175219545276416)) && (p_spec_l01Narrow (m_spec_l01SineWide (fadd .f64 (fdiv .f64 (widen x1) 4611686018427387904)
      4598175219545276416)))))))))
def g_spec_l02About : List AV → Option AV
  | [.agg [.flt .f32 y0, .flt .f32 y1, .flt .f32 y2], .flt .f32 y3] => if p_spec_l02About (y0, y1, y2) y3 = true then some (AV.agg [(.flt
      .f32 (m_spec_l02About (y0, y1, y2) y3).1), (.flt .f32 (m_spec_l02About (y0, y1, y2) y3).2.1), (.flt .f32 (m_spec_l02About (y0, y1, y2) y3).2.2.1), (.flt .f32 (m_spec_l02About
      (y0, y1, y2) y3).2.2.2)]) else none
  | _ => none
def ic63 : ICode := (.seq (.reg [⟨(some 2), none, (.box 3 (.t 0))⟩, ⟨(some 4), none, (.alloc (.agg [(.flt .f32 0), (.flt .f32 0), (.flt .f32 0), (.flt .f32 0)]))⟩] [1, 2, 4]) (.seq
      (.reg [⟨(some 9), none, (.load (some 3) (.t 2))⟩, ⟨(some 10), none, (.call (.fn 35) [(.t 9)] [])⟩, ⟨(some 5), none, (.mov (.t 10))⟩] [1, 2, 4, 5]) (.seq (.seq (.reg [⟨(some
      11), none, (.mov (.t 5))⟩, ⟨(some 12), none, (.bin .eql false (.t 11) (.c (.flt .f32 0)))⟩, ⟨(some 13), none, (.mov (.t 12))⟩, ⟨(some 14), (some (13, false)), (.mov (.t 5))⟩,
      ⟨(some 15), (some (13, false)), (.call (.fn 58) [(.t 14)] [])⟩, ⟨(some 16), (some (13, false)), (.un .not (.t 15))⟩, ⟨(some 17), none, (.pick (.t 13) (.c (.bool true)) (.t
      16))⟩] [1, 2, 4, 5, 17]) (.cond (.t 17) (.seq (.reg [⟨(some 18), none, (.call (.fn 82) [] [])⟩, ⟨none, none, (.store 4 (.t 4) (.t 18))⟩] [4]) .ret) .skip)) (.seq (.reg [⟨(some
      19), none, (.mov (.t 1))⟩, ⟨(some 20), none, (.conv (.flt .f64) (.t 19))⟩, ⟨(some 21), none, (.bin .quo false (.t 20) (.c (.flt .f64 4611686018427387904)))⟩, ⟨(some 6), none,
      (.mov (.t 21))⟩] [2, 4, 5, 6]) (.seq (.reg [⟨(some 22), none, (.mov (.t 6))⟩, ⟨(some 23), none, (.call (.fn 83) [(.t 22)] [])⟩, ⟨(some 24), none, (.call (.fn 61) [(.t 23)]
      [])⟩, ⟨(some 7), none, (.mov (.t 24))⟩] [2, 4, 5, 6, 7]) (.seq (.reg [⟨(some 25), none, (.mov (.t 6))⟩, ⟨(some 26), none, (.bin .add false (.t 25) (.c (.flt .f64
      4598175219545276416)))⟩, ⟨(some 27), none, (.call (.fn 83) [(.t 26)] [])⟩, ⟨(some 28), none, (.call (.fn 61) [(.t 27)] [])⟩, ⟨(some 8), none, (.mov (.t 28))⟩] [2, 4, 5, 7, 8])
      (.seq (.reg [⟨(some 29), none, (.mov (.t 8))⟩, ⟨(some 30), none, (.faddr 0 (.t 2))⟩, ⟨(some 31), none, (.load none (.t 30))⟩, ⟨(some 32), none, (.mov (.t 5))⟩, ⟨(some 33),
      none, (.bin .quo false (.t 31) (.t 32))⟩, ⟨(some 34), none, (.mov (.t 7))⟩, ⟨(some 35), none, (.bin .mul false (.t 33) (.t 34))⟩, ⟨(some 36), none, (.faddr 1 (.t 2))⟩, ⟨(some
      37), none, (.load none (.t 36))⟩, ⟨(some 38), none, (.mov (.t 5))⟩, ⟨(some 39), none, (.bin .quo false (.t 37) (.t 38))⟩, ⟨(some 40), none, (.mov (.t 7))⟩, ⟨(some 41), none,
      (.bin .mul false (.t 39) (.t 40))⟩, ⟨(some 42), none, (.faddr 2 (.t 2))⟩, ⟨(some 43), none, (.load none (.t 42))⟩, ⟨(some 44), none, (.mov (.t 5))⟩, ⟨(some 45), none, (.bin
      .quo false (.t 43) (.t 44))⟩, ⟨(some 46), none, (.mov (.t 7))⟩, ⟨(some 47), none, (.bin .mul false (.t 45) (.t 46))⟩, ⟨(some 48), none, (.build [(.flt .f32 0), (.flt .f32 0),
      (.flt .f32 0), (.flt .f32 0)] [(0, 1, (.t 29)), (1, 1, (.t 35)), (2, 1, (.t 41)), (3, 1, (.t 47))])⟩, ⟨none, none, (.store 4 (.t 4) (.t 48))⟩] [4]) .ret)))))))
def cp63 : CP := { n := 49, kp := [[1, 2, 4], [1, 2, 4, 5], [1, 2, 4, 5, 17], [4], [2, 4, 5, 6], [2, 4, 5, 6, 7], [2, 4, 5, 7, 8], [4]] }
theorem fc63_0 : IntKind.wrap .i64 0 = 0 := by decide
theorem fc63_1 : IntKind.wrap .i64 1 = 1 := by decide
theorem fc63_2 : IntKind.wrap .i64 10 = 10 := by decide
theorem fc63_3 : IntKind.wrap .i64 11 = 11 := by decide
theorem fc63_4 : IntKind.wrap .i64 110 = 110 := by decide
theorem fc63_5 : IntKind.wrap .i64 12 = 12 := by decide
theorem fc63_6 : IntKind.wrap .i64 13 = 13 := by decide
theorem fc63_7 : IntKind.wrap .i64 14 = 14 := by decide
theorem fc63_8 : IntKind.wrap .i64 15 = 15 := by decide
theorem fc63_9 : IntKind.wrap .i64 156 = 156 := by decide
theorem fc63_10 : IntKind.wrap .i64 16 = 16 := by decide
theorem fc63_11 : IntKind.wrap .i64 17 = 17 := by decide
theorem fc63_12 : IntKind.wrap .i64 2 = 2 := by decide
theorem fc63_13 : IntKind.wrap .i64 20 = 20 := by decide
theorem fc63_14 : IntKind.wrap .i64 210 = 210 := by decide
theorem fc63_15 : IntKind.wrap .i64 272 = 272 := by decide
theorem fc63_16 : IntKind.wrap .i64 3 = 3 := by decide
theorem fc63_17 : IntKind.wrap .i64 4 = 4 := by decide
theorem fc63_18 : IntKind.wrap .i64 42 = 42 := by decide
theorem fc63_19 : IntKind.wrap .i64 5 = 5 := by decide
theorem fc63_20 : IntKind.wrap .i64 6 = 6 := by decide
theorem fc63_21 : IntKind.wrap .i64 7 = 7 := by decide
theorem fc63_22 : IntKind.wrap .i64 72 = 72 := by decide
theorem fc63_23 : IntKind.wrap .i64 8 = 8 := by decide
theorem fc63_24 : IntKind.wrap .i64 9 = 9 := by decide
theorem s63 : ∀ vs r, g_spec_l02About vs = some r → Says Try.prog 63 vs r := by
  intro vs r h
  unfold g_spec_l02About at h
  split at h
  · rename_i y0 y1 y2 y3
    split at h
    · rename_i hp
      cases h
      refine spec_of (tab := tabOf [(35, g_spec_l01Long), (58, g_spec_l01Finite), (61, g_spec_l01Narrow), (82, g_spec_l02No), (83, g_spec_l01SineWide)]) (cp := cp63) (ic := ic63) (rvl := [(.c 4 (some 4))]) hm (tabOk_cons s35 (tabOk_cons s58 (tabOk_cons s61 (tabOk_cons s82 (tabOk_cons s83 tabOk_nil))))) Try.func63 rfl rfl rfl (by kernel_rfl) rfl (Nat.le_of_ble_eq_true rfl) ?_
      show eA _ _ _ _
      unfold ic63
      simp only [p_spec_l02About, Bool.and_eq_true, Bool.or_eq_true, decide_eq_true_eq, Bool.not_eq_true', decide_eq_false_iff_not] at hp
      simp only [
          hp, eA_seq, eA_reg, eA_ret, eA_skip, eA_cond, eA_block, eA_exit, eCc_true, eCc_false, Kq_normal, Kq_ret, Kq_exit, Kb_normal, Kb_exit, Kb_ret, Kreg_eq, eI_nil, bindSt_some,
                bindSt_none, bindSt_ite, eR_eq, eGI_tt, eGI_ff, eGI_tf, eGI_ft, eop, vop, ev_t, ev_c, ev_f, Option.map, put_some, put_none, set_eq, setH_eq, get_eq, hp_eq,
                keep_cons, keep_nil, lk_cons, lk_nil, startSt, envOf, reduceIte, Nat.reduceEqDiff, Nat.reduceAdd, Nat.zero_add, Nat.add_zero, Nat.reduceMul, Nat.reduceLT,
                Nat.reduceLeDiff, bop, uop, intop, fltop, convop, true_or, or_true, Bool.false_eq_true, ret_ok, ret_normal, outV, rvV, rvs, ex_some, pureV, pureX, pureX.pure1',
                pure1, Bool.true_and, Bool.false_and, Bool.and_true, Bool.and_false, Option.isNone_none, AV.cells, AV.one, storable, laid, refless, refless1, List.all_cons,
                List.all_nil, List.length_cons, List.length_nil, List.getElem?_cons_zero, List.getElem?_cons_succ, List.set_cons_zero, List.set_cons_succ, List.set_nil,
                List.map_cons, List.map_nil, vload, loadC, storeC, vnil, vfaddr, vextract, callTo, List.mapM_cons, List.mapM_nil, Option.pure_def, Option.bind_eq_bind,
                Option.bind_some, tabOf_cons, flatT, flatE, flatC, and_self, and_true, true_and, implies_true, forall_const, not_true_eq_false, not_false_eq_true, false_implies,
                List.take_succ_cons, List.drop_succ_cons, List.take_zero, List.drop_zero, Bool.not_true, Bool.not_false, beq_self_eq_true, decide_true, decide_false, eq_self,
                Int.reduceEq, Int.reduceLE, Int.reduceLT, Bool.not_not, Bool.true_or, Bool.or_true, Bool.false_or, Bool.or_false, if_true, if_false, List.getElem?_nil, Kl_normal,
                Kl_exit, Kl_ret, fc63_0, fc63_1, fc63_2, fc63_3, fc63_4, fc63_5, fc63_6, fc63_7, fc63_8, fc63_9, fc63_10, fc63_11, fc63_12, fc63_13, fc63_14, fc63_15, fc63_16,
                fc63_17, fc63_18, fc63_19, fc63_20, fc63_21, fc63_22, fc63_23, fc63_24, cast_lit, toNat_lit, Int.reduceAdd, Int.reduceSub, Int.reduceMul, Int.reduceNeg,
                Int.reducePow, Nat.reducePow, Int.reduceToNat, Nat.reduceSub, Nat.mul_one, Int.toNat_zero, prod_eta, List.nil_append, List.cons_append, List.append_nil, vconv, vmm,
                vidxA, viaddrA, iaddr_sl, iaddr_lsl, getE, vfield, vlen, fillC, fillE, List.replicate, elemsOf, List.length_map, f2iK_eq, bits_i64, bits_i32, bits_u64, bits_u32,
                bits_u8, e_mov, g_mov, e_pick, g_pick, e_alloc, g_alloc, e_box, g_box, e_build, g_build, e_load, g_load, e_store, g_store, e_bin, g_bin, e_un, g_un, e_conv, g_conv,
                e_faddr, g_faddr, e_call, g_call, g_spec_l01Long, g_spec_l01Finite, g_spec_l01Narrow, g_spec_l02No, g_spec_l01SineWide, ↓b_pick, ePk_true, ePk_false]
      repeat' (first
        | ((first | (refine eGI_of (fun h => ?_) (fun h => ?_)) | (refine eCc_of (fun h => ?_) (fun h => ?_)) | (refine ePk_of (fun h => ?_) (fun h => ?_))) <;> (try simp only [Bool.not_eq_true', Bool.not_eq_false'] at h) <;> (try simp only [h, reduceCtorEq, Bool.not_eq_true', decide_eq_false_iff_not, Bool.not_true, Bool.not_false, Bool.false_or, Bool.true_or, Bool.true_and, Bool.false_and, Bool.and_eq_true, Bool.or_eq_true, if_true, if_false, reduceIte, Bool.false_eq_true, and_true, true_and, false_or, or_false, decide_eq_true_eq, not_false_eq_true, not_true_eq_false] at hp) <;> (try (have h2 := h; simp only [decide_eq_true_eq, decide_eq_false_iff_not] at h2; simp only [h2, if_true, if_false, false_or, true_or, or_true, or_false, and_true, true_and, not_false_eq_true, not_true_eq_false] at hp)) <;> simp only [h,
          hp, eA_seq, eA_reg, eA_ret, eA_skip, eA_cond, eA_block, eA_exit, eCc_true, eCc_false, Kq_normal, Kq_ret, Kq_exit, Kb_normal, Kb_exit, Kb_ret, Kreg_eq, eI_nil, bindSt_some,
                bindSt_none, bindSt_ite, eR_eq, eGI_tt, eGI_ff, eGI_tf, eGI_ft, eop, vop, ev_t, ev_c, ev_f, Option.map, put_some, put_none, set_eq, setH_eq, get_eq, hp_eq,
                keep_cons, keep_nil, lk_cons, lk_nil, startSt, envOf, reduceIte, Nat.reduceEqDiff, Nat.reduceAdd, Nat.zero_add, Nat.add_zero, Nat.reduceMul, Nat.reduceLT,
                Nat.reduceLeDiff, bop, uop, intop, fltop, convop, true_or, or_true, Bool.false_eq_true, ret_ok, ret_normal, outV, rvV, rvs, ex_some, pureV, pureX, pureX.pure1',
                pure1, Bool.true_and, Bool.false_and, Bool.and_true, Bool.and_false, Option.isNone_none, AV.cells, AV.one, storable, laid, refless, refless1, List.all_cons,
                List.all_nil, List.length_cons, List.length_nil, List.getElem?_cons_zero, List.getElem?_cons_succ, List.set_cons_zero, List.set_cons_succ, List.set_nil,
                List.map_cons, List.map_nil, vload, loadC, storeC, vnil, vfaddr, vextract, callTo, List.mapM_cons, List.mapM_nil, Option.pure_def, Option.bind_eq_bind,
                Option.bind_some, tabOf_cons, flatT, flatE, flatC, and_self, and_true, true_and, implies_true, forall_const, not_true_eq_false, not_false_eq_true, false_implies,
                List.take_succ_cons, List.drop_succ_cons, List.take_zero, List.drop_zero, Bool.not_true, Bool.not_false, beq_self_eq_true, decide_true, decide_false, eq_self,
                Int.reduceEq, Int.reduceLE, Int.reduceLT, Bool.not_not, Bool.true_or, Bool.or_true, Bool.false_or, Bool.or_false, if_true, if_false, List.getElem?_nil, Kl_normal,
                Kl_exit, Kl_ret, fc63_0, fc63_1, fc63_2, fc63_3, fc63_4, fc63_5, fc63_6, fc63_7, fc63_8, fc63_9, fc63_10, fc63_11, fc63_12, fc63_13, fc63_14, fc63_15, fc63_16,
                fc63_17, fc63_18, fc63_19, fc63_20, fc63_21, fc63_22, fc63_23, fc63_24, cast_lit, toNat_lit, Int.reduceAdd, Int.reduceSub, Int.reduceMul, Int.reduceNeg,
                Int.reducePow, Nat.reducePow, Int.reduceToNat, Nat.reduceSub, Nat.mul_one, Int.toNat_zero, prod_eta, List.nil_append, List.cons_append, List.append_nil, vconv, vmm,
                vidxA, viaddrA, iaddr_sl, iaddr_lsl, getE, vfield, vlen, fillC, fillE, List.replicate, elemsOf, List.length_map, f2iK_eq, bits_i64, bits_i32, bits_u64, bits_u32,
                bits_u8, e_mov, g_mov, e_pick, g_pick, e_alloc, g_alloc, e_box, g_box, e_build, g_build, e_load, g_load, e_store, g_store, e_bin, g_bin, e_un, g_un, e_conv, g_conv,
                e_faddr, g_faddr, e_call, g_call, g_spec_l01Long, g_spec_l01Finite, g_spec_l01Narrow, g_spec_l02No, g_spec_l01SineWide, ↓b_pick, ePk_true, ePk_false]))
      all_goals (try simp only [*, m_spec_l02About, Bool.and_true, Bool.true_and, Bool.and_false, Bool.false_and, Bool.or_true, Bool.true_or, Bool.or_false, Bool.false_or, Bool.not_true, Bool.not_false, Bool.false_eq_true, if_true, if_false, reduceIte, decide_true, decide_false])
      all_goals (try (simp_all; done))
    · cases h
  · cases h
def m_spec_TurnAbout (x0 : (Nat × Nat × Nat)) (x1 : Nat) : (Nat × Nat × Nat × Nat) := (m_spec_l02About x0 x1)
def p_spec_TurnAbout (x0 : (Nat × Nat × Nat)) (x1 : Nat) : Bool := (p_spec_l02About x0 x1)
def g_spec_TurnAbout : List AV → Option AV
  | [.agg [.flt .f32 y0, .flt .f32 y1, .flt .f32 y2], .flt .f32 y3] => if p_spec_TurnAbout (y0, y1, y2) y3 = true then some (AV.agg [(.flt
      .f32 (m_spec_TurnAbout (y0, y1, y2) y3).1), (.flt .f32 (m_spec_TurnAbout (y0, y1, y2) y3).2.1), (.flt .f32 (m_spec_TurnAbout (y0, y1, y2) y3).2.2.1), (.flt .f32
      (m_spec_TurnAbout (y0, y1, y2) y3).2.2.2)]) else none
  | _ => none
def ic26 : ICode := (.seq (.reg [⟨(some 2), none, (.box 3 (.t 0))⟩, ⟨(some 4), none, (.alloc (.agg [(.flt .f32 0), (.flt .f32 0), (.flt .f32 0), (.flt .f32 0)]))⟩] [1, 2, 4]) (.seq
      (.reg [⟨(some 5), none, (.load (some 3) (.t 2))⟩, ⟨(some 6), none, (.mov (.t 1))⟩, ⟨(some 7), none, (.call (.fn 63) [(.t 5), (.t 6)] [])⟩, ⟨none, none, (.store 4 (.t 4) (.t
      7))⟩] [4]) .ret))
def cp26 : CP := { n := 8, kp := [[1, 2, 4], [4]] }
theorem fc26_0 : IntKind.wrap .i64 0 = 0 := by decide
theorem fc26_1 : IntKind.wrap .i64 1 = 1 := by decide
theorem fc26_2 : IntKind.wrap .i64 10 = 10 := by decide
theorem fc26_3 : IntKind.wrap .i64 11 = 11 := by decide
theorem fc26_4 : IntKind.wrap .i64 110 = 110 := by decide
theorem fc26_5 : IntKind.wrap .i64 12 = 12 := by decide
theorem fc26_6 : IntKind.wrap .i64 13 = 13 := by decide
theorem fc26_7 : IntKind.wrap .i64 14 = 14 := by decide
theorem fc26_8 : IntKind.wrap .i64 15 = 15 := by decide
theorem fc26_9 : IntKind.wrap .i64 156 = 156 := by decide
theorem fc26_10 : IntKind.wrap .i64 16 = 16 := by decide
theorem fc26_11 : IntKind.wrap .i64 17 = 17 := by decide
theorem fc26_12 : IntKind.wrap .i64 2 = 2 := by decide
theorem fc26_13 : IntKind.wrap .i64 20 = 20 := by decide
theorem fc26_14 : IntKind.wrap .i64 210 = 210 := by decide
theorem fc26_15 : IntKind.wrap .i64 272 = 272 := by decide
theorem fc26_16 : IntKind.wrap .i64 3 = 3 := by decide
theorem fc26_17 : IntKind.wrap .i64 4 = 4 := by decide
theorem fc26_18 : IntKind.wrap .i64 42 = 42 := by decide
theorem fc26_19 : IntKind.wrap .i64 5 = 5 := by decide
theorem fc26_20 : IntKind.wrap .i64 6 = 6 := by decide
theorem fc26_21 : IntKind.wrap .i64 7 = 7 := by decide
theorem fc26_22 : IntKind.wrap .i64 72 = 72 := by decide
theorem fc26_23 : IntKind.wrap .i64 8 = 8 := by decide
theorem fc26_24 : IntKind.wrap .i64 9 = 9 := by decide
theorem s26 : ∀ vs r, g_spec_TurnAbout vs = some r → Says Try.prog 26 vs r := by
  intro vs r h
  unfold g_spec_TurnAbout at h
  split at h
  · rename_i y0 y1 y2 y3
    split at h
    · rename_i hp
      cases h
      refine spec_of (tab := tabOf [(63, g_spec_l02About)]) (cp := cp26) (ic := ic26) (rvl := [(.c 4 (some 4))]) hm (tabOk_cons s63 tabOk_nil) Try.func26 rfl rfl rfl (by kernel_rfl) rfl (Nat.le_of_ble_eq_true rfl) ?_
      show eA _ _ _ _
      unfold ic26
      simp only [p_spec_TurnAbout, Bool.and_eq_true, Bool.or_eq_true, decide_eq_true_eq, Bool.not_eq_true', decide_eq_false_iff_not] at hp
      simp only [
          hp, eA_seq, eA_reg, eA_ret, eA_skip, eA_cond, eA_block, eA_exit, eCc_true, eCc_false, Kq_normal, Kq_ret, Kq_exit, Kb_normal, Kb_exit, Kb_ret, Kreg_eq, eI_nil, bindSt_some,
                bindSt_none, bindSt_ite, eR_eq, eGI_tt, eGI_ff, eGI_tf, eGI_ft, eop, vop, ev_t, ev_c, ev_f, Option.map, put_some, put_none, set_eq, setH_eq, get_eq, hp_eq,
                keep_cons, keep_nil, lk_cons, lk_nil, startSt, envOf, reduceIte, Nat.reduceEqDiff, Nat.reduceAdd, Nat.zero_add, Nat.add_zero, Nat.reduceMul, Nat.reduceLT,
                Nat.reduceLeDiff, bop, uop, intop, fltop, convop, true_or, or_true, Bool.false_eq_true, ret_ok, ret_normal, outV, rvV, rvs, ex_some, pureV, pureX, pureX.pure1',
                pure1, Bool.true_and, Bool.false_and, Bool.and_true, Bool.and_false, Option.isNone_none, AV.cells, AV.one, storable, laid, refless, refless1, List.all_cons,
                List.all_nil, List.length_cons, List.length_nil, List.getElem?_cons_zero, List.getElem?_cons_succ, List.set_cons_zero, List.set_cons_succ, List.set_nil,
                List.map_cons, List.map_nil, vload, loadC, storeC, vnil, vfaddr, vextract, callTo, List.mapM_cons, List.mapM_nil, Option.pure_def, Option.bind_eq_bind,
                Option.bind_some, tabOf_cons, flatT, flatE, flatC, and_self, and_true, true_and, implies_true, forall_const, not_true_eq_false, not_false_eq_true, false_implies,
                List.take_succ_cons, List.drop_succ_cons, List.take_zero, List.drop_zero, Bool.not_true, Bool.not_false, beq_self_eq_true, decide_true, decide_false, eq_self,
                Int.reduceEq, Int.reduceLE, Int.reduceLT, Bool.not_not, Bool.true_or, Bool.or_true, Bool.false_or, Bool.or_false, if_true, if_false, List.getElem?_nil, Kl_normal,
                Kl_exit, Kl_ret, fc26_0, fc26_1, fc26_2, fc26_3, fc26_4, fc26_5, fc26_6, fc26_7, fc26_8, fc26_9, fc26_10, fc26_11, fc26_12, fc26_13, fc26_14, fc26_15, fc26_16,
                fc26_17, fc26_18, fc26_19, fc26_20, fc26_21, fc26_22, fc26_23, fc26_24, cast_lit, toNat_lit, Int.reduceAdd, Int.reduceSub, Int.reduceMul, Int.reduceNeg,
                Int.reducePow, Nat.reducePow, Int.reduceToNat, Nat.reduceSub, Nat.mul_one, Int.toNat_zero, prod_eta, List.nil_append, List.cons_append, List.append_nil, vconv, vmm,
                vidxA, viaddrA, iaddr_sl, iaddr_lsl, getE, vfield, vlen, fillC, fillE, List.replicate, elemsOf, List.length_map, f2iK_eq, bits_i64, bits_i32, bits_u64, bits_u32,
                bits_u8, e_mov, g_mov, e_alloc, g_alloc, e_box, g_box, e_load, g_load, e_store, g_store, e_call, g_call, g_spec_l02About]
      repeat' (first
        | ((first | (refine eGI_of (fun h => ?_) (fun h => ?_)) | (refine eCc_of (fun h => ?_) (fun h => ?_))) <;> (try simp only [Bool.not_eq_true', Bool.not_eq_false'] at h) <;> (try simp only [h, reduceCtorEq, Bool.not_eq_true', decide_eq_false_iff_not, Bool.not_true, Bool.not_false, Bool.false_or, Bool.true_or, Bool.true_and, Bool.false_and, Bool.and_eq_true, Bool.or_eq_true, if_true, if_false, reduceIte, Bool.false_eq_true, and_true, true_and, false_or, or_false, decide_eq_true_eq, not_false_eq_true, not_true_eq_false] at hp) <;> (try (have h2 := h; simp only [decide_eq_true_eq, decide_eq_false_iff_not] at h2; simp only [h2, if_true, if_false, false_or, true_or, or_true, or_false, and_true, true_and, not_false_eq_true, not_true_eq_false] at hp)) <;> simp only [h,
          hp, eA_seq, eA_reg, eA_ret, eA_skip, eA_cond, eA_block, eA_exit, eCc_true, eCc_false, Kq_normal, Kq_ret, Kq_exit, Kb_normal, Kb_exit, Kb_ret, Kreg_eq, eI_nil, bindSt_some,
                bindSt_none, bindSt_ite, eR_eq, eGI_tt, eGI_ff, eGI_tf, eGI_ft, eop, vop, ev_t, ev_c, ev_f, Option.map, put_some, put_none, set_eq, setH_eq, get_eq, hp_eq,
                keep_cons, keep_nil, lk_cons, lk_nil, startSt, envOf, reduceIte, Nat.reduceEqDiff, Nat.reduceAdd, Nat.zero_add, Nat.add_zero, Nat.reduceMul, Nat.reduceLT,
                Nat.reduceLeDiff, bop, uop, intop, fltop, convop, true_or, or_true, Bool.false_eq_true, ret_ok, ret_normal, outV, rvV, rvs, ex_some, pureV, pureX, pureX.pure1',
                pure1, Bool.true_and, Bool.false_and, Bool.and_true, Bool.and_false, Option.isNone_none, AV.cells, AV.one, storable, laid, refless, refless1, List.all_cons,
                List.all_nil, List.length_cons, List.length_nil, List.getElem?_cons_zero, List.getElem?_cons_succ, List.set_cons_zero, List.set_cons_succ, List.set_nil,
                List.map_cons, List.map_nil, vload, loadC, storeC, vnil, vfaddr, vextract, callTo, List.mapM_cons, List.mapM_nil, Option.pure_def, Option.bind_eq_bind,
                Option.bind_some, tabOf_cons, flatT, flatE, flatC, and_self, and_true, true_and, implies_true, forall_const, not_true_eq_false, not_false_eq_true, false_implies,
                List.take_succ_cons, List.drop_succ_cons, List.take_zero, List.drop_zero, Bool.not_true, Bool.not_false, beq_self_eq_true, decide_true, decide_false, eq_self,
                Int.reduceEq, Int.reduceLE, Int.reduceLT, Bool.not_not, Bool.true_or, Bool.or_true, Bool.false_or, Bool.or_false, if_true, if_false, List.getElem?_nil, Kl_normal,
                Kl_exit, Kl_ret, fc26_0, fc26_1, fc26_2, fc26_3, fc26_4, fc26_5, fc26_6, fc26_7, fc26_8, fc26_9, fc26_10, fc26_11, fc26_12, fc26_13, fc26_14, fc26_15, fc26_16,
                fc26_17, fc26_18, fc26_19, fc26_20, fc26_21, fc26_22, fc26_23, fc26_24, cast_lit, toNat_lit, Int.reduceAdd, Int.reduceSub, Int.reduceMul, Int.reduceNeg,
                Int.reducePow, Nat.reducePow, Int.reduceToNat, Nat.reduceSub, Nat.mul_one, Int.toNat_zero, prod_eta, List.nil_append, List.cons_append, List.append_nil, vconv, vmm,
                vidxA, viaddrA, iaddr_sl, iaddr_lsl, getE, vfield, vlen, fillC, fillE, List.replicate, elemsOf, List.length_map, f2iK_eq, bits_i64, bits_i32, bits_u64, bits_u32,
                bits_u8, e_mov, g_mov, e_alloc, g_alloc, e_box, g_box, e_load, g_load, e_store, g_store, e_call, g_call, g_spec_l02About]))
      all_goals (try simp only [*, m_spec_TurnAbout, Bool.and_true, Bool.true_and, Bool.and_false, Bool.false_and, Bool.or_true, Bool.true_or, Bool.or_false, Bool.false_or, Bool.not_true, Bool.not_false, Bool.false_eq_true, if_true, if_false, reduceIte, decide_true, decide_false])
      all_goals (try (simp_all; done))
    · cases h
  · cases h
def m_impl_InnerOf (x0 : (Nat × Nat × Nat)) (x1 : (Nat × Nat × Nat)) : Nat := (fadd .f32 (fadd .f32 (fmul .f32 x0.1 x1.1) (fmul .f32 x0.2.1 x1.2.1)) (fmul .f32 x0.2.2 x1.2.2))
def g_impl_InnerOf : List AV → Option AV
  | [.agg [.flt .f32 y0, .flt .f32 y1, .flt .f32 y2], .agg [.flt .f32 y3, .flt .f32 y4, .flt .f32 y5]] => some (.flt .f32 (m_impl_InnerOf
      (y0, y1, y2) (y3, y4, y5)))
  | _ => none
def ic49 : ICode := (.seq (.reg [⟨(some 2), none, (.box 3 (.t 0))⟩, ⟨(some 3), none, (.box 3 (.t 1))⟩, ⟨(some 4), none, (.mov (.c (.flt .f32 0)))⟩] [2, 3]) (.seq (.reg [⟨(some 5),
      none, (.faddr 0 (.t 2))⟩, ⟨(some 6), none, (.load none (.t 5))⟩, ⟨(some 7), none, (.faddr 0 (.t 3))⟩, ⟨(some 8), none, (.load none (.t 7))⟩, ⟨(some 9), none, (.bin .mul false
      (.t 6) (.t 8))⟩, ⟨(some 10), none, (.faddr 1 (.t 2))⟩, ⟨(some 11), none, (.load none (.t 10))⟩, ⟨(some 12), none, (.faddr 1 (.t 3))⟩, ⟨(some 13), none, (.load none (.t 12))⟩,
      ⟨(some 14), none, (.bin .mul false (.t 11) (.t 13))⟩, ⟨(some 15), none, (.bin .add false (.t 9) (.t 14))⟩, ⟨(some 16), none, (.faddr 2 (.t 2))⟩, ⟨(some 17), none, (.load none
      (.t 16))⟩, ⟨(some 18), none, (.faddr 2 (.t 3))⟩, ⟨(some 19), none, (.load none (.t 18))⟩, ⟨(some 20), none, (.bin .mul false (.t 17) (.t 19))⟩, ⟨(some 21), none, (.bin .add
      false (.t 15) (.t 20))⟩, ⟨(some 4), none, (.mov (.t 21))⟩] [4]) .ret))
def cp49 : CP := { n := 22, kp := [[2, 3], [4]] }
theorem fc49_0 : IntKind.wrap .i64 0 = 0 := by decide
theorem fc49_1 : IntKind.wrap .i64 1 = 1 := by decide
theorem fc49_2 : IntKind.wrap .i64 10 = 10 := by decide
theorem fc49_3 : IntKind.wrap .i64 11 = 11 := by decide
theorem fc49_4 : IntKind.wrap .i64 110 = 110 := by decide
theorem fc49_5 : IntKind.wrap .i64 12 = 12 := by decide
theorem fc49_6 : IntKind.wrap .i64 13 = 13 := by decide
theorem fc49_7 : IntKind.wrap .i64 14 = 14 := by decide
theorem fc49_8 : IntKind.wrap .i64 15 = 15 := by decide
theorem fc49_9 : IntKind.wrap .i64 156 = 156 := by decide
theorem fc49_10 : IntKind.wrap .i64 16 = 16 := by decide
theorem fc49_11 : IntKind.wrap .i64 17 = 17 := by decide
theorem fc49_12 : IntKind.wrap .i64 2 = 2 := by decide
theorem fc49_13 : IntKind.wrap .i64 20 = 20 := by decide
theorem fc49_14 : IntKind.wrap .i64 210 = 210 := by decide
theorem fc49_15 : IntKind.wrap .i64 272 = 272 := by decide
theorem fc49_16 : IntKind.wrap .i64 3 = 3 := by decide
theorem fc49_17 : IntKind.wrap .i64 4 = 4 := by decide
theorem fc49_18 : IntKind.wrap .i64 42 = 42 := by decide
theorem fc49_19 : IntKind.wrap .i64 5 = 5 := by decide
theorem fc49_20 : IntKind.wrap .i64 6 = 6 := by decide
theorem fc49_21 : IntKind.wrap .i64 7 = 7 := by decide
theorem fc49_22 : IntKind.wrap .i64 72 = 72 := by decide
theorem fc49_23 : IntKind.wrap .i64 8 = 8 := by decide
theorem fc49_24 : IntKind.wrap .i64 9 = 9 := by decide
theorem s49 : ∀ vs r, g_impl_InnerOf vs = some r → Says Try.prog 49 vs r := by
  intro vs r h
  unfold g_impl_InnerOf at h
  split at h
  · rename_i y0 y1 y2 y3 y4 y5
    cases h
    refine spec_of (tab := tabOf []) (cp := cp49) (ic := ic49) (rvl := [(.t 4)]) hm tabOk_nil Try.func49 rfl rfl rfl (by kernel_rfl) rfl (Nat.le_of_ble_eq_true rfl) ?_
    show eA _ _ _ _
    unfold ic49
    simp only [
        eA_seq, eA_reg, eA_ret, eA_skip, eA_cond, eA_block, eA_exit, eCc_true, eCc_false, Kq_normal, Kq_ret, Kq_exit, Kb_normal, Kb_exit, Kb_ret, Kreg_eq, eI_nil, bindSt_some,
              bindSt_none, bindSt_ite, eR_eq, eGI_tt, eGI_ff, eGI_tf, eGI_ft, eop, vop, ev_t, ev_c, ev_f, Option.map, put_some, put_none, set_eq, setH_eq, get_eq, hp_eq, keep_cons,
              keep_nil, lk_cons, lk_nil, startSt, envOf, reduceIte, Nat.reduceEqDiff, Nat.reduceAdd, Nat.zero_add, Nat.add_zero, Nat.reduceMul, Nat.reduceLT, Nat.reduceLeDiff, bop,
              uop, intop, fltop, convop, true_or, or_true, Bool.false_eq_true, ret_ok, ret_normal, outV, rvV, rvs, ex_some, pureV, pureX, pureX.pure1', pure1, Bool.true_and,
              Bool.false_and, Bool.and_true, Bool.and_false, Option.isNone_none, AV.cells, AV.one, storable, laid, refless, refless1, List.all_cons, List.all_nil, List.length_cons,
              List.length_nil, List.getElem?_cons_zero, List.getElem?_cons_succ, List.set_cons_zero, List.set_cons_succ, List.set_nil, List.map_cons, List.map_nil, vload, loadC,
              storeC, vnil, vfaddr, vextract, callTo, List.mapM_cons, List.mapM_nil, Option.pure_def, Option.bind_eq_bind, Option.bind_some, tabOf_cons, flatT, flatE, flatC,
              and_self, and_true, true_and, implies_true, forall_const, not_true_eq_false, not_false_eq_true, false_implies, List.take_succ_cons, List.drop_succ_cons,
              List.take_zero, List.drop_zero, Bool.not_true, Bool.not_false, beq_self_eq_true, decide_true, decide_false, eq_self, Int.reduceEq, Int.reduceLE, Int.reduceLT,
              Bool.not_not, Bool.true_or, Bool.or_true, Bool.false_or, Bool.or_false, if_true, if_false, List.getElem?_nil, Kl_normal, Kl_exit, Kl_ret, fc49_0, fc49_1, fc49_2,
              fc49_3, fc49_4, fc49_5, fc49_6, fc49_7, fc49_8, fc49_9, fc49_10, fc49_11, fc49_12, fc49_13, fc49_14, fc49_15, fc49_16, fc49_17, fc49_18, fc49_19, fc49_20, fc49_21,
              fc49_22, fc49_23, fc49_24, cast_lit, toNat_lit, Int.reduceAdd, Int.reduceSub, Int.reduceMul, Int.reduceNeg, Int.reducePow, Nat.reducePow, Int.reduceToNat,
              Nat.reduceSub, Nat.mul_one, Int.toNat_zero, prod_eta, List.nil_append, List.cons_append, List.append_nil, vconv, vmm, vidxA, viaddrA, iaddr_sl, iaddr_lsl, getE,
              vfield, vlen, fillC, fillE, List.replicate, elemsOf, List.length_map, f2iK_eq, bits_i64, bits_i32, bits_u64, bits_u32, bits_u8, e_mov, g_mov, e_box, g_box, e_load,
              g_load, e_bin, g_bin, e_faddr, g_faddr]
    repeat' (first
      | ((first | (refine eGI_of (fun h => ?_) (fun h => ?_)) | (refine eCc_of (fun h => ?_) (fun h => ?_))) <;> (try simp only [Bool.not_eq_true', Bool.not_eq_false'] at h) <;> simp only [h,
        eA_seq, eA_reg, eA_ret, eA_skip, eA_cond, eA_block, eA_exit, eCc_true, eCc_false, Kq_normal, Kq_ret, Kq_exit, Kb_normal, Kb_exit, Kb_ret, Kreg_eq, eI_nil, bindSt_some,
              bindSt_none, bindSt_ite, eR_eq, eGI_tt, eGI_ff, eGI_tf, eGI_ft, eop, vop, ev_t, ev_c, ev_f, Option.map, put_some, put_none, set_eq, setH_eq, get_eq, hp_eq, keep_cons,
              keep_nil, lk_cons, lk_nil, startSt, envOf, reduceIte, Nat.reduceEqDiff, Nat.reduceAdd, Nat.zero_add, Nat.add_zero, Nat.reduceMul, Nat.reduceLT, Nat.reduceLeDiff, bop,
              uop, intop, fltop, convop, true_or, or_true, Bool.false_eq_true, ret_ok, ret_normal, outV, rvV, rvs, ex_some, pureV, pureX, pureX.pure1', pure1, Bool.true_and,
              Bool.false_and, Bool.and_true, Bool.and_false, Option.isNone_none, AV.cells, AV.one, storable, laid, refless, refless1, List.all_cons, List.all_nil, List.length_cons,
              List.length_nil, List.getElem?_cons_zero, List.getElem?_cons_succ, List.set_cons_zero, List.set_cons_succ, List.set_nil, List.map_cons, List.map_nil, vload, loadC,
              storeC, vnil, vfaddr, vextract, callTo, List.mapM_cons, List.mapM_nil, Option.pure_def, Option.bind_eq_bind, Option.bind_some, tabOf_cons, flatT, flatE, flatC,
              and_self, and_true, true_and, implies_true, forall_const, not_true_eq_false, not_false_eq_true, false_implies, List.take_succ_cons, List.drop_succ_cons,
              List.take_zero, List.drop_zero, Bool.not_true, Bool.not_false, beq_self_eq_true, decide_true, decide_false, eq_self, Int.reduceEq, Int.reduceLE, Int.reduceLT,
              Bool.not_not, Bool.true_or, Bool.or_true, Bool.false_or, Bool.or_false, if_true, if_false, List.getElem?_nil, Kl_normal, Kl_exit, Kl_ret, fc49_0, fc49_1, fc49_2,
              fc49_3, fc49_4, fc49_5, fc49_6, fc49_7, fc49_8, fc49_9, fc49_10, fc49_11, fc49_12, fc49_13, fc49_14, fc49_15, fc49_16, fc49_17, fc49_18, fc49_19, fc49_20, fc49_21,
              fc49_22, fc49_23, fc49_24, cast_lit, toNat_lit, Int.reduceAdd, Int.reduceSub, Int.reduceMul, Int.reduceNeg, Int.reducePow, Nat.reducePow, Int.reduceToNat,
              Nat.reduceSub, Nat.mul_one, Int.toNat_zero, prod_eta, List.nil_append, List.cons_append, List.append_nil, vconv, vmm, vidxA, viaddrA, iaddr_sl, iaddr_lsl, getE,
              vfield, vlen, fillC, fillE, List.replicate, elemsOf, List.length_map, f2iK_eq, bits_i64, bits_i32, bits_u64, bits_u32, bits_u8, e_mov, g_mov, e_box, g_box, e_load,
              g_load, e_bin, g_bin, e_faddr, g_faddr]))
    all_goals (try simp only [*, m_impl_InnerOf, Bool.and_true, Bool.true_and, Bool.and_false, Bool.false_and, Bool.or_true, Bool.true_or, Bool.or_false, Bool.false_or, Bool.not_true, Bool.not_false, Bool.false_eq_true, if_true, if_false, reduceIte, decide_true, decide_false])
    all_goals (try (simp_all; done))
  · cases h
def m_impl_RootNumber (x0 : Nat) : Nat := (narrow (m_math_Sqrt (widen x0)))
def p_impl_RootNumber (x0 : Nat) : Bool := (narrowOk (m_math_Sqrt (widen x0)))
def g_impl_RootNumber : List AV → Option AV
  | [.flt .f32 y0] => if p_impl_RootNumber y0 = true then some (.flt .f32 (m_impl_RootNumber y0)) else none
  | _ => none
def ic46 : ICode := (.seq (.reg [⟨(some 2), none, (.mov (.c (.flt .f32 0)))⟩] [0]) (.seq (.reg [⟨(some 3), none, (.mov (.t 0))⟩, ⟨(some 4), none, (.conv (.flt .f64) (.t 3))⟩, ⟨(some
      5), none, (.call (.fn 53) [(.t 4)] [])⟩, ⟨(some 6), none, (.conv (.flt .f32) (.t 5))⟩, ⟨(some 2), none, (.mov (.t 6))⟩] [2]) .ret))
def cp46 : CP := { n := 7, kp := [[0], [2]] }
theorem fc46_0 : IntKind.wrap .i64 0 = 0 := by decide
theorem fc46_1 : IntKind.wrap .i64 1 = 1 := by decide
theorem fc46_2 : IntKind.wrap .i64 10 = 10 := by decide
theorem fc46_3 : IntKind.wrap .i64 11 = 11 := by decide
theorem fc46_4 : IntKind.wrap .i64 110 = 110 := by decide
theorem fc46_5 : IntKind.wrap .i64 12 = 12 := by decide
theorem fc46_6 : IntKind.wrap .i64 13 = 13 := by decide
theorem fc46_7 : IntKind.wrap .i64 14 = 14 := by decide
theorem fc46_8 : IntKind.wrap .i64 15 = 15 := by decide
theorem fc46_9 : IntKind.wrap .i64 156 = 156 := by decide
theorem fc46_10 : IntKind.wrap .i64 16 = 16 := by decide
theorem fc46_11 : IntKind.wrap .i64 17 = 17 := by decide
theorem fc46_12 : IntKind.wrap .i64 2 = 2 := by decide
theorem fc46_13 : IntKind.wrap .i64 20 = 20 := by decide
theorem fc46_14 : IntKind.wrap .i64 210 = 210 := by decide
theorem fc46_15 : IntKind.wrap .i64 272 = 272 := by decide
theorem fc46_16 : IntKind.wrap .i64 3 = 3 := by decide
theorem fc46_17 : IntKind.wrap .i64 4 = 4 := by decide
theorem fc46_18 : IntKind.wrap .i64 42 = 42 := by decide
theorem fc46_19 : IntKind.wrap .i64 5 = 5 := by decide
theorem fc46_20 : IntKind.wrap .i64 6 = 6 := by decide
theorem fc46_21 : IntKind.wrap .i64 7 = 7 := by decide
theorem fc46_22 : IntKind.wrap .i64 72 = 72 := by decide
theorem fc46_23 : IntKind.wrap .i64 8 = 8 := by decide
theorem fc46_24 : IntKind.wrap .i64 9 = 9 := by decide
theorem s46 : ∀ vs r, g_impl_RootNumber vs = some r → Says Try.prog 46 vs r := by
  intro vs r h
  unfold g_impl_RootNumber at h
  split at h
  · rename_i y0
    split at h
    · rename_i hp
      cases h
      refine spec_of (tab := tabOf [(53, g_math_Sqrt)]) (cp := cp46) (ic := ic46) (rvl := [(.t 2)]) hm (tabOk_cons s53 tabOk_nil) Try.func46 rfl rfl rfl (by kernel_rfl) rfl (Nat.le_of_ble_eq_true rfl) ?_
      show eA _ _ _ _
      unfold ic46
      simp only [p_impl_RootNumber, Bool.and_eq_true, Bool.or_eq_true, decide_eq_true_eq, Bool.not_eq_true', decide_eq_false_iff_not] at hp
      simp only [
          hp, eA_seq, eA_reg, eA_ret, eA_skip, eA_cond, eA_block, eA_exit, eCc_true, eCc_false, Kq_normal, Kq_ret, Kq_exit, Kb_normal, Kb_exit, Kb_ret, Kreg_eq, eI_nil, bindSt_some,
                bindSt_none, bindSt_ite, eR_eq, eGI_tt, eGI_ff, eGI_tf, eGI_ft, eop, vop, ev_t, ev_c, ev_f, Option.map, put_some, put_none, set_eq, setH_eq, get_eq, hp_eq,
                keep_cons, keep_nil, lk_cons, lk_nil, startSt, envOf, reduceIte, Nat.reduceEqDiff, Nat.reduceAdd, Nat.zero_add, Nat.add_zero, Nat.reduceMul, Nat.reduceLT,
                Nat.reduceLeDiff, bop, uop, intop, fltop, convop, true_or, or_true, Bool.false_eq_true, ret_ok, ret_normal, outV, rvV, rvs, ex_some, pureV, pureX, pureX.pure1',
                pure1, Bool.true_and, Bool.false_and, Bool.and_true, Bool.and_false, Option.isNone_none, AV.cells, AV.one, storable, laid, refless, refless1, List.all_cons,
                List.all_nil, List.length_cons, List.length_nil, List.getElem?_cons_zero, List.getElem?_cons_succ, List.set_cons_zero, List.set_cons_succ, List.set_nil,
                List.map_cons, List.map_nil, vload, loadC, storeC, vnil, vfaddr, vextract, callTo, List.mapM_cons, List.mapM_nil, Option.pure_def, Option.bind_eq_bind,
                Option.bind_some, tabOf_cons, flatT, flatE, flatC, and_self, and_true, true_and, implies_true, forall_const, not_true_eq_false, not_false_eq_true, false_implies,
                List.take_succ_cons, List.drop_succ_cons, List.take_zero, List.drop_zero, Bool.not_true, Bool.not_false, beq_self_eq_true, decide_true, decide_false, eq_self,
                Int.reduceEq, Int.reduceLE, Int.reduceLT, Bool.not_not, Bool.true_or, Bool.or_true, Bool.false_or, Bool.or_false, if_true, if_false, List.getElem?_nil, Kl_normal,
                Kl_exit, Kl_ret, fc46_0, fc46_1, fc46_2, fc46_3, fc46_4, fc46_5, fc46_6, fc46_7, fc46_8, fc46_9, fc46_10, fc46_11, fc46_12, fc46_13, fc46_14, fc46_15, fc46_16,
                fc46_17, fc46_18, fc46_19, fc46_20, fc46_21, fc46_22, fc46_23, fc46_24, cast_lit, toNat_lit, Int.reduceAdd, Int.reduceSub, Int.reduceMul, Int.reduceNeg,
                Int.reducePow, Nat.reducePow, Int.reduceToNat, Nat.reduceSub, Nat.mul_one, Int.toNat_zero, prod_eta, List.nil_append, List.cons_append, List.append_nil, vconv, vmm,
                vidxA, viaddrA, iaddr_sl, iaddr_lsl, getE, vfield, vlen, fillC, fillE, List.replicate, elemsOf, List.length_map, f2iK_eq, bits_i64, bits_i32, bits_u64, bits_u32,
                bits_u8, e_mov, g_mov, e_conv, g_conv, e_call, g_call, g_math_Sqrt]
      repeat' (first
        | ((first | (refine eGI_of (fun h => ?_) (fun h => ?_)) | (refine eCc_of (fun h => ?_) (fun h => ?_))) <;> (try simp only [Bool.not_eq_true', Bool.not_eq_false'] at h) <;> (try simp only [h, reduceCtorEq, Bool.not_eq_true', decide_eq_false_iff_not, Bool.not_true, Bool.not_false, Bool.false_or, Bool.true_or, Bool.true_and, Bool.false_and, Bool.and_eq_true, Bool.or_eq_true, if_true, if_false, reduceIte, Bool.false_eq_true, and_true, true_and, false_or, or_false, decide_eq_true_eq, not_false_eq_true, not_true_eq_false] at hp) <;> (try (have h2 := h; simp only [decide_eq_true_eq, decide_eq_false_iff_not] at h2; simp only [h2, if_true, if_false, false_or, true_or, or_true, or_false, and_true, true_and, not_false_eq_true, not_true_eq_false] at hp)) <;> simp only [h,
          hp, eA_seq, eA_reg, eA_ret, eA_skip, eA_cond, eA_block, eA_exit, eCc_true, eCc_false, Kq_normal, Kq_ret, Kq_exit, Kb_normal, Kb_exit, Kb_ret, Kreg_eq, eI_nil, bindSt_some,
                bindSt_none, bindSt_ite, eR_eq, eGI_tt, eGI_ff, eGI_tf, eGI_ft, eop, vop, ev_t, ev_c, ev_f, Option.map, put_some, put_none, set_eq, setH_eq, get_eq, hp_eq,
                keep_cons, keep_nil, lk_cons, lk_nil, startSt, envOf, reduceIte, Nat.reduceEqDiff, Nat.reduceAdd, Nat.zero_add, Nat.add_zero, Nat.reduceMul, Nat.reduceLT,
                Nat.reduceLeDiff, bop, uop, intop, fltop, convop, true_or, or_true, Bool.false_eq_true, ret_ok, ret_normal, outV, rvV, rvs, ex_some, pureV, pureX, pureX.pure1',
                pure1, Bool.true_and, Bool.false_and, Bool.and_true, Bool.and_false, Option.isNone_none, AV.cells, AV.one, storable, laid, refless, refless1, List.all_cons,
                List.all_nil, List.length_cons, List.length_nil, List.getElem?_cons_zero, List.getElem?_cons_succ, List.set_cons_zero, List.set_cons_succ, List.set_nil,
                List.map_cons, List.map_nil, vload, loadC, storeC, vnil, vfaddr, vextract, callTo, List.mapM_cons, List.mapM_nil, Option.pure_def, Option.bind_eq_bind,
                Option.bind_some, tabOf_cons, flatT, flatE, flatC, and_self, and_true, true_and, implies_true, forall_const, not_true_eq_false, not_false_eq_true, false_implies,
                List.take_succ_cons, List.drop_succ_cons, List.take_zero, List.drop_zero, Bool.not_true, Bool.not_false, beq_self_eq_true, decide_true, decide_false, eq_self,
                Int.reduceEq, Int.reduceLE, Int.reduceLT, Bool.not_not, Bool.true_or, Bool.or_true, Bool.false_or, Bool.or_false, if_true, if_false, List.getElem?_nil, Kl_normal,
                Kl_exit, Kl_ret, fc46_0, fc46_1, fc46_2, fc46_3, fc46_4, fc46_5, fc46_6, fc46_7, fc46_8, fc46_9, fc46_10, fc46_11, fc46_12, fc46_13, fc46_14, fc46_15, fc46_16,
                fc46_17, fc46_18, fc46_19, fc46_20, fc46_21, fc46_22, fc46_23, fc46_24, cast_lit, toNat_lit, Int.reduceAdd, Int.reduceSub, Int.reduceMul, Int.reduceNeg,
                Int.reducePow, Nat.reducePow, Int.reduceToNat, Nat.reduceSub, Nat.mul_one, Int.toNat_zero, prod_eta, List.nil_append, List.cons_append, List.append_nil, vconv, vmm,
                vidxA, viaddrA, iaddr_sl, iaddr_lsl, getE, vfield, vlen, fillC, fillE, List.replicate, elemsOf, List.length_map, f2iK_eq, bits_i64, bits_i32, bits_u64, bits_u32,
                bits_u8, e_mov, g_mov, e_conv, g_conv, e_call, g_call, g_math_Sqrt]))
      all_goals (try simp only [*, m_impl_RootNumber, Bool.and_true, Bool.true_and, Bool.and_false, Bool.false_and, Bool.or_true, Bool.true_or, Bool.or_false, Bool.false_or, Bool.not_true, Bool.not_false, Bool.false_eq_true, if_true, if_false, reduceIte, decide_true, decide_false])
      all_goals (try (simp_all; done))
    · cases h
  · cases h
def m_impl_LongOf (x0 : (Nat × Nat × Nat)) : Nat := (m_impl_RootNumber (m_impl_InnerOf x0 x0))
def p_impl_LongOf (x0 : (Nat × Nat × Nat)) : Bool := (p_impl_RootNumber (m_impl_InnerOf x0 x0))
def g_impl_LongOf : List AV → Option AV
  | [.agg [.flt .f32 y0, .flt .f32 y1, .flt .f32 y2]] => if p_impl_LongOf (y0, y1, y2) = true then some (.flt .f32 (m_impl_LongOf (y0, y1,
      y2))) else none
  | _ => none
def ic42 : ICode := (.seq (.reg [⟨(some 1), none, (.box 3 (.t 0))⟩, ⟨(some 2), none, (.mov (.c (.flt .f32 0)))⟩] [1]) (.seq (.reg [⟨(some 3), none, (.load (some 3) (.t 1))⟩, ⟨(some
      4), none, (.load (some 3) (.t 1))⟩, ⟨(some 5), none, (.call (.fn 49) [(.t 3), (.t 4)] [])⟩, ⟨(some 6), none, (.call (.fn 46) [(.t 5)] [])⟩, ⟨(some 2), none, (.mov (.t 6))⟩]
      [2]) .ret))
def cp42 : CP := { n := 7, kp := [[1], [2]] }
theorem fc42_0 : IntKind.wrap .i64 0 = 0 := by decide
theorem fc42_1 : IntKind.wrap .i64 1 = 1 := by decide
theorem fc42_2 : IntKind.wrap .i64 10 = 10 := by decide
theorem fc42_3 : IntKind.wrap .i64 11 = 11 := by decide
theorem fc42_4 : IntKind.wrap .i64 110 = 110 := by decide
theorem fc42_5 : IntKind.wrap .i64 12 = 12 := by decide
theorem fc42_6 : IntKind.wrap .i64 13 = 13 := by decide
theorem fc42_7 : IntKind.wrap .i64 14 = 14 := by decide
theorem fc42_8 : IntKind.wrap .i64 15 = 15 := by decide
theorem fc42_9 : IntKind.wrap .i64 156 = 156 := by decide
theorem fc42_10 : IntKind.wrap .i64 16 = 16 := by decide
theorem fc42_11 : IntKind.wrap .i64 17 = 17 := by decide
theorem fc42_12 : IntKind.wrap .i64 2 = 2 := by decide
theorem fc42_13 : IntKind.wrap .i64 20 = 20 := by decide
theorem fc42_14 : IntKind.wrap .i64 210 = 210 := by decide
theorem fc42_15 : IntKind.wrap .i64 272 = 272 := by decide
theorem fc42_16 : IntKind.wrap .i64 3 = 3 := by decide
theorem fc42_17 : IntKind.wrap .i64 4 = 4 := by decide
theorem fc42_18 : IntKind.wrap .i64 42 = 42 := by decide
theorem fc42_19 : IntKind.wrap .i64 5 = 5 := by decide
theorem fc42_20 : IntKind.wrap .i64 6 = 6 := by decide
theorem fc42_21 : IntKind.wrap .i64 7 = 7 := by decide
theorem fc42_22 : IntKind.wrap .i64 72 = 72 := by decide
theorem fc42_23 : IntKind.wrap .i64 8 = 8 := by decide
theorem fc42_24 : IntKind.wrap .i64 9 = 9 := by decide
theorem s42 : ∀ vs r, g_impl_LongOf vs = some r → Says Try.prog 42 vs r := by
  intro vs r h
  unfold g_impl_LongOf at h
  split at h
  · rename_i y0 y1 y2
    split at h
    · rename_i hp
      cases h
      refine spec_of (tab := tabOf [(46, g_impl_RootNumber), (49, g_impl_InnerOf)]) (cp := cp42) (ic := ic42) (rvl := [(.t 2)]) hm (tabOk_cons s46 (tabOk_cons s49 tabOk_nil)) Try.func42 rfl rfl rfl (by kernel_rfl) rfl (Nat.le_of_ble_eq_true rfl) ?_
      show eA _ _ _ _
      unfold ic42
      simp only [p_impl_LongOf, Bool.and_eq_true, Bool.or_eq_true, decide_eq_true_eq, Bool.not_eq_true', decide_eq_false_iff_not] at hp
      simp only [
          hp, eA_seq, eA_reg, eA_ret, eA_skip, eA_cond, eA_block, eA_exit, eCc_true, eCc_false, Kq_normal, Kq_ret, Kq_exit, Kb_normal, Kb_exit, Kb_ret, Kreg_eq, eI_nil, bindSt_some,
                bindSt_none, bindSt_ite, eR_eq, eGI_tt, eGI_ff, eGI_tf, eGI_ft, eop, vop, ev_t, ev_c, ev_f, Option.map, put_some, put_none, set_eq, setH_eq, get_eq, hp_eq,
                keep_cons, keep_nil, lk_cons, lk_nil, startSt, envOf, reduceIte, Nat.reduceEqDiff, Nat.reduceAdd, Nat.zero_add, Nat.add_zero, Nat.reduceMul, Nat.reduceLT,
                Nat.reduceLeDiff, bop, uop, intop, fltop, convop, true_or, or_true, Bool.false_eq_true, ret_ok, ret_normal, outV, rvV, rvs, ex_some, pureV, pureX, pureX.pure1',
                pure1, Bool.true_and, Bool.false_and, Bool.and_true, Bool.and_false, Option.isNone_none, AV.cells, AV.one, storable, laid, refless, refless1, List.all_cons,
                List.all_nil, List.length_cons, List.length_nil, List.getElem?_cons_zero, List.getElem?_cons_succ, List.set_cons_zero, List.set_cons_succ, List.set_nil,
                List.map_cons, List.map_nil, vload, loadC, storeC, vnil, vfaddr, vextract, callTo, List.mapM_cons, List.mapM_nil, Option.pure_def, Option.bind_eq_bind,
                Option.bind_some, tabOf_cons, flatT, flatE, flatC, and_self, and_true, true_and, implies_true, forall_const, not_true_eq_false, not_false_eq_true, false_implies,
                List.take_succ_cons, List.drop_succ_cons, List.take_zero, List.drop_zero, Bool.not_true, Bool.not_false, beq_self_eq_true, decide_true, decide_false, eq_self,
                Int.reduceEq, Int.reduceLE, Int.reduceLT, Bool.not_not, Bool.true_or, Bool.or_true, Bool.false_or, Bool.or_false, if_true, if_false, List.getElem?_nil, Kl_normal,
                Kl_exit, Kl_ret, fc42_0, fc42_1, fc42_2, fc42_3, fc42_4, fc42_5, fc42_6, fc42_7, fc42_8, fc42_9, fc42_10, fc42_11, fc42_12, fc42_13, fc42_14, fc42_15, fc42_16,
                fc42_17, fc42_18, fc42_19, fc42_20, fc42_21, fc42_22, fc42_23, fc42_24, cast_lit, toNat_lit, Int.reduceAdd, Int.reduceSub, Int.reduceMul, Int.reduceNeg,
                Int.reducePow, Nat.reducePow, Int.reduceToNat, Nat.reduceSub, Nat.mul_one, Int.toNat_zero, prod_eta, List.nil_append, List.cons_append, List.append_nil, vconv, vmm,
                vidxA, viaddrA, iaddr_sl, iaddr_lsl, getE, vfield, vlen, fillC, fillE, List.replicate, elemsOf, List.length_map, f2iK_eq, bits_i64, bits_i32, bits_u64, bits_u32,
                bits_u8, e_mov, g_mov, e_box, g_box, e_load, g_load, e_call, g_call, g_impl_RootNumber, g_impl_InnerOf]
      repeat' (first
        | ((first | (refine eGI_of (fun h => ?_) (fun h => ?_)) | (refine eCc_of (fun h => ?_) (fun h => ?_))) <;> (try simp only [Bool.not_eq_true', Bool.not_eq_false'] at h) <;> (try simp only [h, reduceCtorEq, Bool.not_eq_true', decide_eq_false_iff_not, Bool.not_true, Bool.not_false, Bool.false_or, Bool.true_or, Bool.true_and, Bool.false_and, Bool.and_eq_true, Bool.or_eq_true, if_true, if_false, reduceIte, Bool.false_eq_true, and_true, true_and, false_or, or_false, decide_eq_true_eq, not_false_eq_true, not_true_eq_false] at hp) <;> (try (have h2 := h; simp only [decide_eq_true_eq, decide_eq_false_iff_not] at h2; simp only [h2, if_true, if_false, false_or, true_or, or_true, or_false, and_true, true_and, not_false_eq_true, not_true_eq_false] at hp)) <;> simp only [h,
          hp, eA_seq, eA_reg, eA_ret, eA_skip, eA_cond, eA_block, eA_exit, eCc_true, eCc_false, Kq_normal, Kq_ret, Kq_exit, Kb_normal, Kb_exit, Kb_ret, Kreg_eq, eI_nil, bindSt_some,
                bindSt_none, bindSt_ite, eR_eq, eGI_tt, eGI_ff, eGI_tf, eGI_ft, eop, vop, ev_t, ev_c, ev_f, Option.map, put_some, put_none, set_eq, setH_eq, get_eq, hp_eq,
                keep_cons, keep_nil, lk_cons, lk_nil, startSt, envOf, reduceIte, Nat.reduceEqDiff, Nat.reduceAdd, Nat.zero_add, Nat.add_zero, Nat.reduceMul, Nat.reduceLT,
                Nat.reduceLeDiff, bop, uop, intop, fltop, convop, true_or, or_true, Bool.false_eq_true, ret_ok, ret_normal, outV, rvV, rvs, ex_some, pureV, pureX, pureX.pure1',
                pure1, Bool.true_and, Bool.false_and, Bool.and_true, Bool.and_false, Option.isNone_none, AV.cells, AV.one, storable, laid, refless, refless1, List.all_cons,
                List.all_nil, List.length_cons, List.length_nil, List.getElem?_cons_zero, List.getElem?_cons_succ, List.set_cons_zero, List.set_cons_succ, List.set_nil,
                List.map_cons, List.map_nil, vload, loadC, storeC, vnil, vfaddr, vextract, callTo, List.mapM_cons, List.mapM_nil, Option.pure_def, Option.bind_eq_bind,
                Option.bind_some, tabOf_cons, flatT, flatE, flatC, and_self, and_true, true_and, implies_true, forall_const, not_true_eq_false, not_false_eq_true, false_implies,
                List.take_succ_cons, List.drop_succ_cons, List.take_zero, List.drop_zero, Bool.not_true, Bool.not_false, beq_self_eq_true, decide_true, decide_false, eq_self,
                Int.reduceEq, Int.reduceLE, Int.reduceLT, Bool.not_not, Bool.true_or, Bool.or_true, Bool.false_or, Bool.or_false, if_true, if_false, List.getElem?_nil, Kl_normal,
                Kl_exit, Kl_ret, fc42_0, fc42_1, fc42_2, fc42_3, fc42_4, fc42_5, fc42_6, fc42_7, fc42_8, fc42_9, fc42_10, fc42_11, fc42_12, fc42_13, fc42_14, fc42_15, fc42_16,
                fc42_17, fc42_18, fc42_19, fc42_20, fc42_21, fc42_22, fc42_23, fc42_24, cast_lit, toNat_lit, Int.reduceAdd, Int.reduceSub, Int.reduceMul, Int.reduceNeg,
                Int.reducePow, Nat.reducePow, Int.reduceToNat, Nat.reduceSub, Nat.mul_one, Int.toNat_zero, prod_eta, List.nil_append, List.cons_append, List.append_nil, vconv, vmm,
                vidxA, viaddrA, iaddr_sl, iaddr_lsl, getE, vfield, vlen, fillC, fillE, List.replicate, elemsOf, List.length_map, f2iK_eq, bits_i64, bits_i32, bits_u64, bits_u32,
                bits_u8, e_mov, g_mov, e_box, g_box, e_load, g_load, e_call, g_call, g_impl_RootNumber, g_impl_InnerOf]))
      all_goals (try simp only [*, m_impl_LongOf, Bool.and_true, Bool.true_and, Bool.and_false, Bool.false_and, Bool.or_true, Bool.true_or, Bool.or_false, Bool.false_or, Bool.not_true, Bool.not_false, Bool.false_eq_true, if_true, if_false, reduceIte, decide_true, decide_false])
      all_goals (try (simp_all; done))
    · cases h
  · cases h
def m_impl_IsFinite (x0 : Nat) : Bool := (feq .f32 (fsub .f32 x0 x0) 0)
def g_impl_IsFinite : List AV → Option AV
  | [.flt .f32 y0] => some (.bool (m_impl_IsFinite y0))
  | _ => none
def ic51 : ICode := (.seq (.reg [⟨(some 2), none, (.mov (.c (.bool false)))⟩] [0]) (.seq (.reg [⟨(some 3), none, (.mov (.t 0))⟩, ⟨(some 4), none, (.mov (.t 0))⟩, ⟨(some 5), none,
      (.bin .sub false (.t 3) (.t 4))⟩, ⟨(some 6), none, (.bin .eql false (.t 5) (.c (.flt .f32 0)))⟩, ⟨(some 2), none, (.mov (.t 6))⟩] [2]) .ret))
def cp51 : CP := { n := 7, kp := [[0], [2]] }
theorem fc51_0 : IntKind.wrap .i64 0 = 0 := by decide
theorem fc51_1 : IntKind.wrap .i64 1 = 1 := by decide
theorem fc51_2 : IntKind.wrap .i64 10 = 10 := by decide
theorem fc51_3 : IntKind.wrap .i64 11 = 11 := by decide
theorem fc51_4 : IntKind.wrap .i64 110 = 110 := by decide
theorem fc51_5 : IntKind.wrap .i64 12 = 12 := by decide
theorem fc51_6 : IntKind.wrap .i64 13 = 13 := by decide
theorem fc51_7 : IntKind.wrap .i64 14 = 14 := by decide
theorem fc51_8 : IntKind.wrap .i64 15 = 15 := by decide
theorem fc51_9 : IntKind.wrap .i64 156 = 156 := by decide
theorem fc51_10 : IntKind.wrap .i64 16 = 16 := by decide
theorem fc51_11 : IntKind.wrap .i64 17 = 17 := by decide
theorem fc51_12 : IntKind.wrap .i64 2 = 2 := by decide
theorem fc51_13 : IntKind.wrap .i64 20 = 20 := by decide
theorem fc51_14 : IntKind.wrap .i64 210 = 210 := by decide
theorem fc51_15 : IntKind.wrap .i64 272 = 272 := by decide
theorem fc51_16 : IntKind.wrap .i64 3 = 3 := by decide
theorem fc51_17 : IntKind.wrap .i64 4 = 4 := by decide
theorem fc51_18 : IntKind.wrap .i64 42 = 42 := by decide
theorem fc51_19 : IntKind.wrap .i64 5 = 5 := by decide
theorem fc51_20 : IntKind.wrap .i64 6 = 6 := by decide
theorem fc51_21 : IntKind.wrap .i64 7 = 7 := by decide
theorem fc51_22 : IntKind.wrap .i64 72 = 72 := by decide
theorem fc51_23 : IntKind.wrap .i64 8 = 8 := by decide
theorem fc51_24 : IntKind.wrap .i64 9 = 9 := by decide
theorem s51 : ∀ vs r, g_impl_IsFinite vs = some r → Says Try.prog 51 vs r := by
  intro vs r h
  unfold g_impl_IsFinite at h
  split at h
  · rename_i y0
    cases h
    refine spec_of (tab := tabOf []) (cp := cp51) (ic := ic51) (rvl := [(.t 2)]) hm tabOk_nil Try.func51 rfl rfl rfl (by kernel_rfl) rfl (Nat.le_of_ble_eq_true rfl) ?_
    show eA _ _ _ _
    unfold ic51
    simp only [
        eA_seq, eA_reg, eA_ret, eA_skip, eA_cond, eA_block, eA_exit, eCc_true, eCc_false, Kq_normal, Kq_ret, Kq_exit, Kb_normal, Kb_exit, Kb_ret, Kreg_eq, eI_nil, bindSt_some,
              bindSt_none, bindSt_ite, eR_eq, eGI_tt, eGI_ff, eGI_tf, eGI_ft, eop, vop, ev_t, ev_c, ev_f, Option.map, put_some, put_none, set_eq, setH_eq, get_eq, hp_eq, keep_cons,
              keep_nil, lk_cons, lk_nil, startSt, envOf, reduceIte, Nat.reduceEqDiff, Nat.reduceAdd, Nat.zero_add, Nat.add_zero, Nat.reduceMul, Nat.reduceLT, Nat.reduceLeDiff, bop,
              uop, intop, fltop, convop, true_or, or_true, Bool.false_eq_true, ret_ok, ret_normal, outV, rvV, rvs, ex_some, pureV, pureX, pureX.pure1', pure1, Bool.true_and,
              Bool.false_and, Bool.and_true, Bool.and_false, Option.isNone_none, AV.cells, AV.one, storable, laid, refless, refless1, List.all_cons, List.all_nil, List.length_cons,
              List.length_nil, List.getElem?_cons_zero, List.getElem?_cons_succ, List.set_cons_zero, List.set_cons_succ, List.set_nil, List.map_cons, List.map_nil, vload, loadC,
              storeC, vnil, vfaddr, vextract, callTo, List.mapM_cons, List.mapM_nil, Option.pure_def, Option.bind_eq_bind, Option.bind_some, tabOf_cons, flatT, flatE, flatC,
              and_self, and_true, true_and, implies_true, forall_const, not_true_eq_false, not_false_eq_true, false_implies, List.take_succ_cons, List.drop_succ_cons,
              List.take_zero, List.drop_zero, Bool.not_true, Bool.not_false, beq_self_eq_true, decide_true, decide_false, eq_self, Int.reduceEq, Int.reduceLE, Int.reduceLT,
              Bool.not_not, Bool.true_or, Bool.or_true, Bool.false_or, Bool.or_false, if_true, if_false, List.getElem?_nil, Kl_normal, Kl_exit, Kl_ret, fc51_0, fc51_1, fc51_2,
              fc51_3, fc51_4, fc51_5, fc51_6, fc51_7, fc51_8, fc51_9, fc51_10, fc51_11, fc51_12, fc51_13, fc51_14, fc51_15, fc51_16, fc51_17, fc51_18, fc51_19, fc51_20, fc51_21,
              fc51_22, fc51_23, fc51_24, cast_lit, toNat_lit, Int.reduceAdd, Int.reduceSub, Int.reduceMul, Int.reduceNeg, Int.reducePow, Nat.reducePow, Int.reduceToNat,
              Nat.reduceSub, Nat.mul_one, Int.toNat_zero, prod_eta, List.nil_append, List.cons_append, List.append_nil, vconv, vmm, vidxA, viaddrA, iaddr_sl, iaddr_lsl, getE,
              vfield, vlen, fillC, fillE, List.replicate, elemsOf, List.length_map, f2iK_eq, bits_i64, bits_i32, bits_u64, bits_u32, bits_u8, e_mov, g_mov, e_bin, g_bin]
    repeat' (first
      | ((first | (refine eGI_of (fun h => ?_) (fun h => ?_)) | (refine eCc_of (fun h => ?_) (fun h => ?_))) <;> (try simp only [Bool.not_eq_true', Bool.not_eq_false'] at h) <;> simp only [h,
        eA_seq, eA_reg, eA_ret, eA_skip, eA_cond, eA_block, eA_exit, eCc_true, eCc_false, Kq_normal, Kq_ret, Kq_exit, Kb_normal, Kb_exit, Kb_ret, Kreg_eq, eI_nil, bindSt_some,
              bindSt_none, bindSt_ite, eR_eq, eGI_tt, eGI_ff, eGI_tf, eGI_ft, eop, vop, ev_t, ev_c, ev_f, Option.map, put_some, put_none, set_eq, setH_eq, get_eq, hp_eq, keep_cons,
              keep_nil, lk_cons, lk_nil, startSt, envOf, reduceIte, Nat.reduceEqDiff, Nat.reduceAdd, Nat.zero_add, Nat.add_zero, Nat.reduceMul, Nat.reduceLT, Nat.reduceLeDiff, bop,
              uop, intop, fltop, convop, true_or, or_true, Bool.false_eq_true, ret_ok, ret_normal, outV, rvV, rvs, ex_some, pureV, pureX, pureX.pure1', pure1, Bool.true_and,
              Bool.false_and, Bool.and_true, Bool.and_false, Option.isNone_none, AV.cells, AV.one, storable, laid, refless, refless1, List.all_cons, List.all_nil, List.length_cons,
              List.length_nil, List.getElem?_cons_zero, List.getElem?_cons_succ, List.set_cons_zero, List.set_cons_succ, List.set_nil, List.map_cons, List.map_nil, vload, loadC,
              storeC, vnil, vfaddr, vextract, callTo, List.mapM_cons, List.mapM_nil, Option.pure_def, Option.bind_eq_bind, Option.bind_some, tabOf_cons, flatT, flatE, flatC,
              and_self, and_true, true_and, implies_true, forall_const, not_true_eq_false, not_false_eq_true, false_implies, List.take_succ_cons, List.drop_succ_cons,
              List.take_zero, List.drop_zero, Bool.not_true, Bool.not_false, beq_self_eq_true, decide_true, decide_false, eq_self, Int.reduceEq, Int.reduceLE, Int.reduceLT,
              Bool.not_not, Bool.true_or, Bool.or_true, Bool.false_or, Bool.or_false, if_true, if_false, List.getElem?_nil, Kl_normal, Kl_exit, Kl_ret, fc51_0, fc51_1, fc51_2,
              fc51_3, fc51_4, fc51_5, fc51_6, fc51_7, fc51_8, fc51_9, fc51_10, fc51_11, fc51_12, fc51_13, fc51_14, fc51_15, fc51_16, fc51_17, fc51_18, fc51_19, fc51_20, fc51_21,
              fc51_22, fc51_23, fc51_24, cast_lit, toNat_lit, Int.reduceAdd, Int.reduceSub, Int.reduceMul, Int.reduceNeg, Int.reducePow, Nat.reducePow, Int.reduceToNat,
              Nat.reduceSub, Nat.mul_one, Int.toNat_zero, prod_eta, List.nil_append, List.cons_append, List.append_nil, vconv, vmm, vidxA, viaddrA, iaddr_sl, iaddr_lsl, getE,
              vfield, vlen, fillC, fillE, List.replicate, elemsOf, List.length_map, f2iK_eq, bits_i64, bits_i32, bits_u64, bits_u32, bits_u8, e_mov, g_mov, e_bin, g_bin]))
    all_goals (try simp only [*, m_impl_IsFinite, Bool.and_true, Bool.true_and, Bool.and_false, Bool.false_and, Bool.or_true, Bool.true_or, Bool.or_false, Bool.false_or, Bool.not_true, Bool.not_false, Bool.false_eq_true, if_true, if_false, reduceIte, decide_true, decide_false])
    all_goals (try (simp_all; done))
  · cases h
def m_impl_isLength (x0 : Nat) : Bool := (if (m_impl_IsFinite x0) = true then (!(feq .f32 x0 0)) else false)
def g_impl_isLength : List AV → Option AV
  | [.flt .f32 y0] => some (.bool (m_impl_isLength y0))
  | _ => none
def ic44 : ICode := (.seq (.reg [⟨(some 2), none, (.mov (.c (.bool false)))⟩] [0]) (.seq (.reg [⟨(some 3), none, (.mov (.t 0))⟩, ⟨(some 4), none, (.call (.fn 51) [(.t 3)] [])⟩,
      ⟨(some 5), none, (.mov (.t 4))⟩, ⟨(some 6), (some (5, true)), (.mov (.t 0))⟩, ⟨(some 7), (some (5, true)), (.bin .neq false (.t 6) (.c (.flt .f32 0)))⟩, ⟨(some 8), none,
      (.pick (.t 5) (.t 7) (.c (.bool false)))⟩, ⟨(some 2), none, (.mov (.t 8))⟩] [2]) .ret))
def cp44 : CP := { n := 9, kp := [[0], [2]] }
theorem fc44_0 : IntKind.wrap .i64 0 = 0 := by decide
theorem fc44_1 : IntKind.wrap .i64 1 = 1 := by decide
theorem fc44_2 : IntKind.wrap .i64 10 = 10 := by decide
theorem fc44_3 : IntKind.wrap .i64 11 = 11 := by decide
theorem fc44_4 : IntKind.wrap .i64 110 = 110 := by decide
theorem fc44_5 : IntKind.wrap .i64 12 = 12 := by decide
theorem fc44_6 : IntKind.wrap .i64 13 = 13 := by decide
theorem fc44_7 : IntKind.wrap .i64 14 = 14 := by decide
theorem fc44_8 : IntKind.wrap .i64 15 = 15 := by decide
theorem fc44_9 : IntKind.wrap .i64 156 = 156 := by decide
theorem fc44_10 : IntKind.wrap .i64 16 = 16 := by decide
theorem fc44_11 : IntKind.wrap .i64 17 = 17 := by decide
theorem fc44_12 : IntKind.wrap .i64 2 = 2 := by decide
theorem fc44_13 : IntKind.wrap .i64 20 = 20 := by decide
theorem fc44_14 : IntKind.wrap .i64 210 = 210 := by decide
theorem fc44_15 : IntKind.wrap .i64 272 = 272 := by decide
theorem fc44_16 : IntKind.wrap .i64 3 = 3 := by decide
theorem fc44_17 : IntKind.wrap .i64 4 = 4 := by decide
theorem fc44_18 : IntKind.wrap .i64 42 = 42 := by decide
theorem fc44_19 : IntKind.wrap .i64 5 = 5 := by decide
theorem fc44_20 : IntKind.wrap .i64 6 = 6 := by decide
theorem fc44_21 : IntKind.wrap .i64 7 = 7 := by decide
theorem fc44_22 : IntKind.wrap .i64 72 = 72 := by decide
theorem fc44_23 : IntKind.wrap .i64 8 = 8 := by decide
theorem fc44_24 : IntKind.wrap .i64 9 = 9 := by decide
theorem s44 : ∀ vs r, g_impl_isLength vs = some r → Says Try.prog 44 vs r := by
  intro vs r h
  unfold g_impl_isLength at h
  split at h
  · rename_i y0
    cases h
    refine spec_of (tab := tabOf [(51, g_impl_IsFinite)]) (cp := cp44) (ic := ic44) (rvl := [(.t 2)]) hm (tabOk_cons s51 tabOk_nil) Try.func44 rfl rfl rfl (by kernel_rfl) rfl (Nat.le_of_ble_eq_true rfl) ?_
    show eA _ _ _ _
    unfold ic44
    simp only [
        eA_seq, eA_reg, eA_ret, eA_skip, eA_cond, eA_block, eA_exit, eCc_true, eCc_false, Kq_normal, Kq_ret, Kq_exit, Kb_normal, Kb_exit, Kb_ret, Kreg_eq, eI_nil, bindSt_some,
              bindSt_none, bindSt_ite, eR_eq, eGI_tt, eGI_ff, eGI_tf, eGI_ft, eop, vop, ev_t, ev_c, ev_f, Option.map, put_some, put_none, set_eq, setH_eq, get_eq, hp_eq, keep_cons,
              keep_nil, lk_cons, lk_nil, startSt, envOf, reduceIte, Nat.reduceEqDiff, Nat.reduceAdd, Nat.zero_add, Nat.add_zero, Nat.reduceMul, Nat.reduceLT, Nat.reduceLeDiff, bop,
              uop, intop, fltop, convop, true_or, or_true, Bool.false_eq_true, ret_ok, ret_normal, outV, rvV, rvs, ex_some, pureV, pureX, pureX.pure1', pure1, Bool.true_and,
              Bool.false_and, Bool.and_true, Bool.and_false, Option.isNone_none, AV.cells, AV.one, storable, laid, refless, refless1, List.all_cons, List.all_nil, List.length_cons,
              List.length_nil, List.getElem?_cons_zero, List.getElem?_cons_succ, List.set_cons_zero, List.set_cons_succ, List.set_nil, List.map_cons, List.map_nil, vload, loadC,
              storeC, vnil, vfaddr, vextract, callTo, List.mapM_cons, List.mapM_nil, Option.pure_def, Option.bind_eq_bind, Option.bind_some, tabOf_cons, flatT, flatE, flatC,
              and_self, and_true, true_and, implies_true, forall_const, not_true_eq_false, not_false_eq_true, false_implies, List.take_succ_cons, List.drop_succ_cons,
              List.take_zero, List.drop_zero, Bool.not_true, Bool.not_false, beq_self_eq_true, decide_true, decide_false, eq_self, Int.reduceEq, Int.reduceLE, Int.reduceLT,
              Bool.not_not, Bool.true_or, Bool.or_true, Bool.false_or, Bool.or_false, if_true, if_false, List.getElem?_nil, Kl_normal, Kl_exit, Kl_ret, fc44_0, fc44_1, fc44_2,
              fc44_3, fc44_4, fc44_5, fc44_6, fc44_7, fc44_8, fc44_9, fc44_10, fc44_11, fc44_12, fc44_13, fc44_14, fc44_15, fc44_16, fc44_17, fc44_18, fc44_19, fc44_20, fc44_21,
              fc44_22, fc44_23, fc44_24, cast_lit, toNat_lit, Int.reduceAdd, Int.reduceSub, Int.reduceMul, Int.reduceNeg, Int.reducePow, Nat.reducePow, Int.reduceToNat,
              Nat.reduceSub, Nat.mul_one, Int.toNat_zero, prod_eta, List.nil_append, List.cons_append, List.append_nil, vconv, vmm, vidxA, viaddrA, iaddr_sl, iaddr_lsl, getE,
              vfield, vlen, fillC, fillE, List.replicate, elemsOf, List.length_map, f2iK_eq, bits_i64, bits_i32, bits_u64, bits_u32, bits_u8, e_mov, g_mov, e_pick, g_pick, e_bin,
              g_bin, e_call, g_call, g_impl_IsFinite, ↓b_pick, ePk_true, ePk_false]
    repeat' (first
      | ((first | (refine eGI_of (fun h => ?_) (fun h => ?_)) | (refine eCc_of (fun h => ?_) (fun h => ?_)) | (refine ePk_of (fun h => ?_) (fun h => ?_))) <;> (try simp only [Bool.not_eq_true', Bool.not_eq_false'] at h) <;> simp only [h,
        eA_seq, eA_reg, eA_ret, eA_skip, eA_cond, eA_block, eA_exit, eCc_true, eCc_false, Kq_normal, Kq_ret, Kq_exit, Kb_normal, Kb_exit, Kb_ret, Kreg_eq, eI_nil, bindSt_some,
              bindSt_none, bindSt_ite, eR_eq, eGI_tt, eGI_ff, eGI_tf, eGI_ft, eop, vop, ev_t, ev_c, ev_f, Option.map, put_some, put_none, set_eq, setH_eq, get_eq, hp_eq, keep_cons,
              keep_nil, lk_cons, lk_nil, startSt, envOf, reduceIte, Nat.reduceEqDiff, Nat.reduceAdd, Nat.zero_add, Nat.add_zero, Nat.reduceMul, Nat.reduceLT, Nat.reduceLeDiff, bop,
              uop, intop, fltop, convop, true_or, or_true, Bool.false_eq_true, ret_ok, ret_normal, outV, rvV, rvs, ex_some, pureV, pureX, pureX.pure1', pure1, Bool.true_and,
              Bool.false_and, Bool.and_true, Bool.and_false, Option.isNone_none, AV.cells, AV.one, storable, laid, refless, refless1, List.all_cons, List.all_nil, List.length_cons,
              List.length_nil, List.getElem?_cons_zero, List.getElem?_cons_succ, List.set_cons_zero, List.set_cons_succ, List.set_nil, List.map_cons, List.map_nil, vload, loadC,
              storeC, vnil, vfaddr, vextract, callTo, List.mapM_cons, List.mapM_nil, Option.pure_def, Option.bind_eq_bind, Option.bind_some, tabOf_cons, flatT, flatE, flatC,
              and_self, and_true, true_and, implies_true, forall_const, not_true_eq_false, not_false_eq_true, false_implies, List.take_succ_cons, List.drop_succ_cons,
              List.take_zero, List.drop_zero, Bool.not_true, Bool.not_false, beq_self_eq_true, decide_true, decide_false, eq_self, Int.reduceEq, Int.reduceLE, Int.reduceLT,
              Bool.not_not, Bool.true_or, Bool.or_true, Bool.false_or, Bool.or_false, if_true, if_false, List.getElem?_nil, Kl_normal, Kl_exit, Kl_ret, fc44_0, fc44_1, fc44_2,
              fc44_3, fc44_4, fc44_5, fc44_6, fc44_7, fc44_8, fc44_9, fc44_10, fc44_11, fc44_12, fc44_13, fc44_14, fc44_15, fc44_16, fc44_17, fc44_18, fc44_19, fc44_20, fc44_21,
              fc44_22, fc44_23, fc44_24, cast_lit, toNat_lit, Int.reduceAdd, Int.reduceSub, Int.reduceMul, Int.reduceNeg, Int.reducePow, Nat.reducePow, Int.reduceToNat,
              Nat.reduceSub, Nat.mul_one, Int.toNat_zero, prod_eta, List.nil_append, List.cons_append, List.append_nil, vconv, vmm, vidxA, viaddrA, iaddr_sl, iaddr_lsl, getE,
              vfield, vlen, fillC, fillE, List.replicate, elemsOf, List.length_map, f2iK_eq, bits_i64, bits_i32, bits_u64, bits_u32, bits_u8, e_mov, g_mov, e_pick, g_pick, e_bin,
              g_bin, e_call, g_call, g_impl_IsFinite, ↓b_pick, ePk_true, ePk_false]))
    all_goals (try simp only [*, m_impl_isLength, Bool.and_true, Bool.true_and, Bool.and_false, Bool.false_and, Bool.or_true, Bool.true_or, Bool.or_false, Bool.false_or, Bool.not_true, Bool.not_false, Bool.false_eq_true, if_true, if_false, reduceIte, decide_true, decide_false])
    all_goals (try (simp_all; done))
  · cases h
def m_impl_NoTurn  : (Nat × Nat × Nat × Nat) := (1065353216, 0, 0, 0)
def g_impl_NoTurn : List AV → Option AV
  | [] => some (AV.agg [(.flt .f32 (m_impl_NoTurn).1), (.flt .f32 (m_impl_NoTurn).2.1), (.flt .f32 (m_impl_NoTurn).2.2.1), (.flt .f32
      (m_impl_NoTurn).2.2.2)])
  | _ => none
def ic64 : ICode := (.seq (.reg [⟨(some 0), none, (.alloc (.agg [(.flt .f32 0), (.flt .f32 0), (.flt .f32 0), (.flt .f32 0)]))⟩] [0]) (.seq (.reg [⟨(some 1), none, (.build [(.flt
      .f32 0), (.flt .f32 0), (.flt .f32 0), (.flt .f32 0)] [(0, 1, (.c (.flt .f32 1065353216)))])⟩, ⟨none, none, (.store 4 (.t 0) (.t 1))⟩] [0]) .ret))
def cp64 : CP := { n := 2, kp := [[0], [0]] }
theorem fc64_0 : IntKind.wrap .i64 0 = 0 := by decide
theorem fc64_1 : IntKind.wrap .i64 1 = 1 := by decide
theorem fc64_2 : IntKind.wrap .i64 10 = 10 := by decide
theorem fc64_3 : IntKind.wrap .i64 11 = 11 := by decide
theorem fc64_4 : IntKind.wrap .i64 110 = 110 := by decide
theorem fc64_5 : IntKind.wrap .i64 12 = 12 := by decide
theorem fc64_6 : IntKind.wrap .i64 13 = 13 := by decide
theorem fc64_7 : IntKind.wrap .i64 14 = 14 := by decide
theorem fc64_8 : IntKind.wrap .i64 15 = 15 := by decide
theorem fc64_9 : IntKind.wrap .i64 156 = 156 := by decide
theorem fc64_10 : IntKind.wrap .i64 16 = 16 := by decide
theorem fc64_11 : IntKind.wrap .i64 17 = 17 := by decide
theorem fc64_12 : IntKind.wrap .i64 2 = 2 := by decide
theorem fc64_13 : IntKind.wrap .i64 20 = 20 := by decide
theorem fc64_14 : IntKind.wrap .i64 210 = 210 := by decide
theorem fc64_15 : IntKind.wrap .i64 272 = 272 := by decide
theorem fc64_16 : IntKind.wrap .i64 3 = 3 := by decide
theorem fc64_17 : IntKind.wrap .i64 4 = 4 := by decide
theorem fc64_18 : IntKind.wrap .i64 42 = 42 := by decide
theorem fc64_19 : IntKind.wrap .i64 5 = 5 := by decide
theorem fc64_20 : IntKind.wrap .i64 6 = 6 := by decide
theorem fc64_21 : IntKind.wrap .i64 7 = 7 := by decide
theorem fc64_22 : IntKind.wrap .i64 72 = 72 := by decide
theorem fc64_23 : IntKind.wrap .i64 8 = 8 := by decide
theorem fc64_24 : IntKind.wrap .i64 9 = 9 := by decide
theorem s64 : ∀ vs r, g_impl_NoTurn vs = some r → Says Try.prog 64 vs r := by
  intro vs r h
  unfold g_impl_NoTurn at h
  split at h
  · cases h
    refine spec_of (tab := tabOf []) (cp := cp64) (ic := ic64) (rvl := [(.c 0 (some 4))]) hm tabOk_nil Try.func64 rfl rfl rfl (by kernel_rfl) rfl (Nat.le_of_ble_eq_true rfl) ?_
    show eA _ _ _ _
    unfold ic64
    simp only [
        eA_seq, eA_reg, eA_ret, eA_skip, eA_cond, eA_block, eA_exit, eCc_true, eCc_false, Kq_normal, Kq_ret, Kq_exit, Kb_normal, Kb_exit, Kb_ret, Kreg_eq, eI_nil, bindSt_some,
              bindSt_none, bindSt_ite, eR_eq, eGI_tt, eGI_ff, eGI_tf, eGI_ft, eop, vop, ev_t, ev_c, ev_f, Option.map, put_some, put_none, set_eq, setH_eq, get_eq, hp_eq, keep_cons,
              keep_nil, lk_cons, lk_nil, startSt, envOf, reduceIte, Nat.reduceEqDiff, Nat.reduceAdd, Nat.zero_add, Nat.add_zero, Nat.reduceMul, Nat.reduceLT, Nat.reduceLeDiff, bop,
              uop, intop, fltop, convop, true_or, or_true, Bool.false_eq_true, ret_ok, ret_normal, outV, rvV, rvs, ex_some, pureV, pureX, pureX.pure1', pure1, Bool.true_and,
              Bool.false_and, Bool.and_true, Bool.and_false, Option.isNone_none, AV.cells, AV.one, storable, laid, refless, refless1, List.all_cons, List.all_nil, List.length_cons,
              List.length_nil, List.getElem?_cons_zero, List.getElem?_cons_succ, List.set_cons_zero, List.set_cons_succ, List.set_nil, List.map_cons, List.map_nil, vload, loadC,
              storeC, vnil, vfaddr, vextract, callTo, List.mapM_cons, List.mapM_nil, Option.pure_def, Option.bind_eq_bind, Option.bind_some, tabOf_cons, flatT, flatE, flatC,
              and_self, and_true, true_and, implies_true, forall_const, not_true_eq_false, not_false_eq_true, false_implies, List.take_succ_cons, List.drop_succ_cons,
              List.take_zero, List.drop_zero, Bool.not_true, Bool.not_false, beq_self_eq_true, decide_true, decide_false, eq_self, Int.reduceEq, Int.reduceLE, Int.reduceLT,
              Bool.not_not, Bool.true_or, Bool.or_true, Bool.false_or, Bool.or_false, if_true, if_false, List.getElem?_nil, Kl_normal, Kl_exit, Kl_ret, fc64_0, fc64_1, fc64_2,
              fc64_3, fc64_4, fc64_5, fc64_6, fc64_7, fc64_8, fc64_9, fc64_10, fc64_11, fc64_12, fc64_13, fc64_14, fc64_15, fc64_16, fc64_17, fc64_18, fc64_19, fc64_20, fc64_21,
              fc64_22, fc64_23, fc64_24, cast_lit, toNat_lit, Int.reduceAdd, Int.reduceSub, Int.reduceMul, Int.reduceNeg, Int.reducePow, Nat.reducePow, Int.reduceToNat,
              Nat.reduceSub, Nat.mul_one, Int.toNat_zero, prod_eta, List.nil_append, List.cons_append, List.append_nil, vconv, vmm, vidxA, viaddrA, iaddr_sl, iaddr_lsl, getE,
              vfield, vlen, fillC, fillE, List.replicate, elemsOf, List.length_map, f2iK_eq, bits_i64, bits_i32, bits_u64, bits_u32, bits_u8, e_alloc, g_alloc, e_build, g_build,
              e_store, g_store]
    repeat' (first
      | ((first | (refine eGI_of (fun h => ?_) (fun h => ?_)) | (refine eCc_of (fun h => ?_) (fun h => ?_))) <;> (try simp only [Bool.not_eq_true', Bool.not_eq_false'] at h) <;> simp only [h,
        eA_seq, eA_reg, eA_ret, eA_skip, eA_cond, eA_block, eA_exit, eCc_true, eCc_false, Kq_normal, Kq_ret, Kq_exit, Kb_normal, Kb_exit, Kb_ret, Kreg_eq, eI_nil, bindSt_some,
              bindSt_none, bindSt_ite, eR_eq, eGI_tt, eGI_ff, eGI_tf, eGI_ft, eop, vop, ev_t, ev_c, ev_f, Option.map, put_some, put_none, set_eq, setH_eq, get_eq, hp_eq, keep_cons,
              keep_nil, lk_cons, lk_nil, startSt, envOf, reduceIte, Nat.reduceEqDiff, Nat.reduceAdd, Nat.zero_add, Nat.add_zero, Nat.reduceMul, Nat.reduceLT, Nat.reduceLeDiff, bop,
              uop, intop, fltop, convop, true_or, or_true, Bool.false_eq_true, ret_ok, ret_normal, outV, rvV, rvs, ex_some, pureV, pureX, pureX.pure1', pure1, Bool.true_and,
              Bool.false_and, Bool.and_true, Bool.and_false, Option.isNone_none, AV.cells, AV.one, storable, laid, refless, refless1, List.all_cons, List.all_nil, List.length_cons,
              List.length_nil, List.getElem?_cons_zero, List.getElem?_cons_succ, List.set_cons_zero, List.set_cons_succ, List.set_nil, List.map_cons, List.map_nil, vload, loadC,
              storeC, vnil, vfaddr, vextract, callTo, List.mapM_cons, List.mapM_nil, Option.pure_def, Option.bind_eq_bind, Option.bind_some, tabOf_cons, flatT, flatE, flatC,
              and_self, and_true, true_and, implies_true, forall_const, not_true_eq_false, not_false_eq_true, false_implies, List.take_succ_cons, List.drop_succ_cons,
              List.take_zero, List.drop_zero, Bool.not_true, Bool.not_false, beq_self_eq_true, decide_true, decide_false, eq_self, Int.reduceEq, Int.reduceLE, Int.reduceLT,
              Bool.not_not, Bool.true_or, Bool.or_true, Bool.false_or, Bool.or_false, if_true, if_false, List.getElem?_nil, Kl_normal, Kl_exit, Kl_ret, fc64_0, fc64_1, fc64_2,
              fc64_3, fc64_4, fc64_5, fc64_6, fc64_7, fc64_8, fc64_9, fc64_10, fc64_11, fc64_12, fc64_13, fc64_14, fc64_15, fc64_16, fc64_17, fc64_18, fc64_19, fc64_20, fc64_21,
              fc64_22, fc64_23, fc64_24, cast_lit, toNat_lit, Int.reduceAdd, Int.reduceSub, Int.reduceMul, Int.reduceNeg, Int.reducePow, Nat.reducePow, Int.reduceToNat,
              Nat.reduceSub, Nat.mul_one, Int.toNat_zero, prod_eta, List.nil_append, List.cons_append, List.append_nil, vconv, vmm, vidxA, viaddrA, iaddr_sl, iaddr_lsl, getE,
              vfield, vlen, fillC, fillE, List.replicate, elemsOf, List.length_map, f2iK_eq, bits_i64, bits_i32, bits_u64, bits_u32, bits_u8, e_alloc, g_alloc, e_build, g_build,
              e_store, g_store]))
    all_goals (try simp only [*, m_impl_NoTurn, Bool.and_true, Bool.true_and, Bool.and_false, Bool.false_and, Bool.or_true, Bool.true_or, Bool.or_false, Bool.false_or, Bool.not_true, Bool.not_false, Bool.false_eq_true, if_true, if_false, reduceIte, decide_true, decide_false])
    all_goals (try (simp_all; done))
  · cases h
theorem s93 : ∀ vs r, g_f64bits vs = some r → Says Try.prog 93 vs r := t_f64bits Try.func93 (by kernel_rfl) rfl (by kernel_rfl) (by kernel_rfl)
def ic71 : ICode := (.seq (.reg [⟨(some 2), none, (.mov (.c (.flt .f64 0)))⟩] [0]) (.seq (.reg [⟨(some 3), none, (.mov (.t 0))⟩, ⟨(some 4), none, (.call (.fn 93) [(.t 3)] [])⟩,
      ⟨(some 5), none, (.bin .andNot false (.t 4) (.c (.int .u64 9223372036854775808)))⟩, ⟨(some 6), none, (.call (.fn 92) [(.t 5)] [])⟩, ⟨(some 2), none, (.mov (.t 6))⟩] [2])
      .ret))
def cp71 : CP := { n := 7, kp := [[0], [2]] }
theorem s71 : ∀ vs r, g_abs vs = some r → Says Try.prog 71 vs r := by
  intro vs r h
  unfold g_abs at h
  split at h
  · rename_i c
    cases h
    refine says_raw1 fun b hb => ?_
    have hlt : b < 2 ^ 64 := hb.lt
    rw [fabs_fv hb]
    refine spec_of (tab := tabOf [(92, g_f64from), (93, g_f64bits)]) (cp := cp71) (ic := ic71) (rvl := [(.t 2)]) hm (tabOk_cons s92 (tabOk_cons s93 tabOk_nil)) Try.func71 rfl rfl rfl (by kernel_rfl) rfl (Nat.le_of_ble_eq_true rfl) ?_
    show eA _ _ _ _
    unfold ic71
    simp only [
      if_pos hlt, eA_seq, eA_reg, eA_ret, eA_skip, eA_cond, eA_block, eA_exit, eCc_true, eCc_false, Kq_normal, Kq_ret, Kq_exit, Kb_normal, Kb_exit, Kb_ret, Kreg_eq, eI_nil,
            bindSt_some, bindSt_none, bindSt_ite, eR_eq, eGI_tt, eGI_ff, eGI_tf, eGI_ft, eop, vop, ev_t, ev_c, ev_f, Option.map, put_some, put_none, set_eq, setH_eq, get_eq, hp_eq,
            keep_cons, keep_nil, lk_cons, lk_nil, startSt, envOf, reduceIte, Nat.reduceEqDiff, Nat.reduceAdd, Nat.zero_add, Nat.add_zero, Nat.reduceMul, Nat.reduceLT,
            Nat.reduceLeDiff, bop, uop, intop, fltop, convop, true_or, or_true, Bool.false_eq_true, ret_ok, ret_normal, outV, rvV, rvs, ex_some, pureV, pureX, pureX.pure1', pure1,
            Bool.true_and, Bool.false_and, Bool.and_true, Bool.and_false, Option.isNone_none, AV.cells, AV.one, storable, laid, refless, refless1, List.all_cons, List.all_nil,
            List.length_cons, List.length_nil, List.getElem?_cons_zero, List.getElem?_cons_succ, List.set_cons_zero, List.set_cons_succ, List.set_nil, List.map_cons, List.map_nil,
            vload, loadC, storeC, vnil, vfaddr, vextract, callTo, List.mapM_cons, List.mapM_nil, Option.pure_def, Option.bind_eq_bind, Option.bind_some, tabOf_cons, flatT, flatE,
            flatC, and_self, and_true, true_and, implies_true, forall_const, not_true_eq_false, not_false_eq_true, false_implies, List.take_succ_cons, List.drop_succ_cons,
            List.take_zero, List.drop_zero, Bool.not_true, Bool.not_false, beq_self_eq_true, decide_true, decide_false, eq_self, Int.reduceEq, Int.reduceLE, Int.reduceLT,
            Bool.not_not, Bool.true_or, Bool.or_true, Bool.false_or, Bool.or_false, if_true, if_false, List.getElem?_nil, e_mov, g_mov, e_bin, g_bin, e_call, g_call, g_f64bits,
            g_f64from]
  · cases h
theorem s107 : ∀ vs r, g_integral .zero vs = some r → Says Try.prog 107 vs r := t_integral (name := "math.archTrunc") Try.func107 (by kernel_rfl) rfl (by kernel_rfl) (by kernel_rfl)
def m_math_Trunc (x0 : Nat) : Nat := (integral .zero x0)
def g_math_Trunc : List AV → Option AV
  | [.flt .f64 y0] => some (.flt .f64 (m_math_Trunc y0))
  | _ => none
def ic103 : ICode := (.seq (.reg [⟨(some 2), none, (.mov (.c (.flt .f64 0)))⟩] [0]) (.seq (.cond (.c (.bool true)) (.seq (.reg [⟨(some 3), none, (.mov (.t 0))⟩, ⟨(some 4), none,
      (.call (.fn 107) [(.t 3)] [])⟩, ⟨(some 2), none, (.mov (.t 4))⟩] [2]) .ret) .skip) (.seq (.reg [⟨(some 5), none, (.mov (.t 0))⟩, ⟨(some 6), none, (.call (.fn 108) [(.t 5)]
      [])⟩, ⟨(some 2), none, (.mov (.t 6))⟩] [2]) .ret)))
def cp103 : CP := { n := 7, kp := [[0], [2], [2]] }
theorem fc103_0 : IntKind.wrap .i64 0 = 0 := by decide
theorem fc103_1 : IntKind.wrap .i64 1 = 1 := by decide
theorem fc103_2 : IntKind.wrap .i64 10 = 10 := by decide
theorem fc103_3 : IntKind.wrap .i64 11 = 11 := by decide
theorem fc103_4 : IntKind.wrap .i64 110 = 110 := by decide
theorem fc103_5 : IntKind.wrap .i64 12 = 12 := by decide
theorem fc103_6 : IntKind.wrap .i64 13 = 13 := by decide
theorem fc103_7 : IntKind.wrap .i64 14 = 14 := by decide
theorem fc103_8 : IntKind.wrap .i64 15 = 15 := by decide
theorem fc103_9 : IntKind.wrap .i64 156 = 156 := by decide
theorem fc103_10 : IntKind.wrap .i64 16 = 16 := by decide
theorem fc103_11 : IntKind.wrap .i64 17 = 17 := by decide
theorem fc103_12 : IntKind.wrap .i64 2 = 2 := by decide
theorem fc103_13 : IntKind.wrap .i64 20 = 20 := by decide
theorem fc103_14 : IntKind.wrap .i64 210 = 210 := by decide
theorem fc103_15 : IntKind.wrap .i64 272 = 272 := by decide
theorem fc103_16 : IntKind.wrap .i64 3 = 3 := by decide
theorem fc103_17 : IntKind.wrap .i64 4 = 4 := by decide
theorem fc103_18 : IntKind.wrap .i64 42 = 42 := by decide
theorem fc103_19 : IntKind.wrap .i64 5 = 5 := by decide
theorem fc103_20 : IntKind.wrap .i64 6 = 6 := by decide
theorem fc103_21 : IntKind.wrap .i64 7 = 7 := by decide
theorem fc103_22 : IntKind.wrap .i64 72 = 72 := by decide
theorem fc103_23 : IntKind.wrap .i64 8 = 8 := by decide
theorem fc103_24 : IntKind.wrap .i64 9 = 9 := by decide
theorem s103 : ∀ vs r, g_math_Trunc vs = some r → Says Try.prog 103 vs r := by
  intro vs r h
  unfold g_math_Trunc at h
  split at h
  · rename_i y0
    cases h
    refine spec_of (tab := tabOf [(107, g_integral .zero)]) (cp := cp103) (ic := ic103) (rvl := [(.t 2)]) hm (tabOk_cons s107 tabOk_nil) Try.func103 rfl rfl rfl (by kernel_rfl) rfl (Nat.le_of_ble_eq_true rfl) ?_
    show eA _ _ _ _
    unfold ic103
    simp only [
        eA_seq, eA_reg, eA_ret, eA_skip, eA_cond, eA_block, eA_exit, eCc_true, eCc_false, Kq_normal, Kq_ret, Kq_exit, Kb_normal, Kb_exit, Kb_ret, Kreg_eq, eI_nil, bindSt_some,
              bindSt_none, bindSt_ite, eR_eq, eGI_tt, eGI_ff, eGI_tf, eGI_ft, eop, vop, ev_t, ev_c, ev_f, Option.map, put_some, put_none, set_eq, setH_eq, get_eq, hp_eq, keep_cons,
              keep_nil, lk_cons, lk_nil, startSt, envOf, reduceIte, Nat.reduceEqDiff, Nat.reduceAdd, Nat.zero_add, Nat.add_zero, Nat.reduceMul, Nat.reduceLT, Nat.reduceLeDiff, bop,
              uop, intop, fltop, convop, true_or, or_true, Bool.false_eq_true, ret_ok, ret_normal, outV, rvV, rvs, ex_some, pureV, pureX, pureX.pure1', pure1, Bool.true_and,
              Bool.false_and, Bool.and_true, Bool.and_false, Option.isNone_none, AV.cells, AV.one, storable, laid, refless, refless1, List.all_cons, List.all_nil, List.length_cons,
              List.length_nil, List.getElem?_cons_zero, List.getElem?_cons_succ, List.set_cons_zero, List.set_cons_succ, List.set_nil, List.map_cons, List.map_nil, vload, loadC,
              storeC, vnil, vfaddr, vextract, callTo, List.mapM_cons, List.mapM_nil, Option.pure_def, Option.bind_eq_bind, Option.bind_some, tabOf_cons, flatT, flatE, flatC,
              and_self, and_true, true_and, implies_true, forall_const, not_true_eq_false, not_false_eq_true, false_implies, List.take_succ_cons, List.drop_succ_cons,
              List.take_zero, List.drop_zero, Bool.not_true, Bool.not_false, beq_self_eq_true, decide_true, decide_false, eq_self, Int.reduceEq, Int.reduceLE, Int.reduceLT,
              Bool.not_not, Bool.true_or, Bool.or_true, Bool.false_or, Bool.or_false, if_true, if_false, List.getElem?_nil, Kl_normal, Kl_exit, Kl_ret, fc103_0, fc103_1, fc103_2,
              fc103_3, fc103_4, fc103_5, fc103_6, fc103_7, fc103_8, fc103_9, fc103_10, fc103_11, fc103_12, fc103_13, fc103_14, fc103_15, fc103_16, fc103_17, fc103_18, fc103_19,
              fc103_20, fc103_21, fc103_22, fc103_23, fc103_24, cast_lit, toNat_lit, Int.reduceAdd, Int.reduceSub, Int.reduceMul, Int.reduceNeg, Int.reducePow, Nat.reducePow,
              Int.reduceToNat, Nat.reduceSub, Nat.mul_one, Int.toNat_zero, prod_eta, List.nil_append, List.cons_append, List.append_nil, vconv, vmm, vidxA, viaddrA, iaddr_sl,
              iaddr_lsl, getE, vfield, vlen, fillC, fillE, List.replicate, elemsOf, List.length_map, f2iK_eq, bits_i64, bits_i32, bits_u64, bits_u32, bits_u8, e_mov, g_mov, e_call,
              g_call, g_integral]
    repeat' (first
      | ((first | (refine eGI_of (fun h => ?_) (fun h => ?_)) | (refine eCc_of (fun h => ?_) (fun h => ?_))) <;> (try simp only [Bool.not_eq_true', Bool.not_eq_false'] at h) <;> simp only [h,
        eA_seq, eA_reg, eA_ret, eA_skip, eA_cond, eA_block, eA_exit, eCc_true, eCc_false, Kq_normal, Kq_ret, Kq_exit, Kb_normal, Kb_exit, Kb_ret, Kreg_eq, eI_nil, bindSt_some,
              bindSt_none, bindSt_ite, eR_eq, eGI_tt, eGI_ff, eGI_tf, eGI_ft, eop, vop, ev_t, ev_c, ev_f, Option.map, put_some, put_none, set_eq, setH_eq, get_eq, hp_eq, keep_cons,
              keep_nil, lk_cons, lk_nil, startSt, envOf, reduceIte, Nat.reduceEqDiff, Nat.reduceAdd, Nat.zero_add, Nat.add_zero, Nat.reduceMul, Nat.reduceLT, Nat.reduceLeDiff, bop,
              uop, intop, fltop, convop, true_or, or_true, Bool.false_eq_true, ret_ok, ret_normal, outV, rvV, rvs, ex_some, pureV, pureX, pureX.pure1', pure1, Bool.true_and,
              Bool.false_and, Bool.and_true, Bool.and_false, Option.isNone_none, AV.cells, AV.one, storable, laid, refless, refless1, List.all_cons, List.all_nil, List.length_cons,
              List.length_nil, List.getElem?_cons_zero, List.getElem?_cons_succ, List.set_cons_zero, List.set_cons_succ, List.set_nil, List.map_cons, List.map_nil, vload, loadC,
              storeC, vnil, vfaddr, vextract, callTo, List.mapM_cons, List.mapM_nil, Option.pure_def, Option.bind_eq_bind, Option.bind_some, tabOf_cons, flatT, flatE, flatC,
              and_self, and_true, true_and, implies_true, forall_const, not_true_eq_false, not_false_eq_true, false_implies, List.take_succ_cons, List.drop_succ_cons,
              List.take_zero, List.drop_zero, Bool.not_true, Bool.not_false, beq_self_eq_true, decide_true, decide_false, eq_self, Int.reduceEq, Int.reduceLE, Int.reduceLT,
              Bool.not_not, Bool.true_or, Bool.or_true, Bool.false_or, Bool.or_false, if_true, if_false, List.getElem?_nil, Kl_normal, Kl_exit, Kl_ret, fc103_0, fc103_1, fc103_2,
              fc103_3, fc103_4, fc103_5, fc103_6, fc103_7, fc103_8, fc103_9, fc103_10, fc103_11, fc103_12, fc103_13, fc103_14, fc103_15, fc103_16, fc103_17, fc103_18, fc103_19,
              fc103_20, fc103_21, fc103_22, fc103_23, fc103_24, cast_lit, toNat_lit, Int.reduceAdd, Int.reduceSub, Int.reduceMul, Int.reduceNeg, Int.reducePow, Nat.reducePow,
              Int.reduceToNat, Nat.reduceSub, Nat.mul_one, Int.toNat_zero, prod_eta, List.nil_append, List.cons_append, List.append_nil, vconv, vmm, vidxA, viaddrA, iaddr_sl,
              iaddr_lsl, getE, vfield, vlen, fillC, fillE, List.replicate, elemsOf, List.length_map, f2iK_eq, bits_i64, bits_i32, bits_u64, bits_u32, bits_u8, e_mov, g_mov, e_call,
              g_call, g_integral]))
    all_goals (try simp only [*, m_math_Trunc, Bool.and_true, Bool.true_and, Bool.and_false, Bool.false_and, Bool.or_true, Bool.true_or, Bool.or_false, Bool.false_or, Bool.not_true, Bool.not_false, Bool.false_eq_true, if_true, if_false, reduceIte, decide_true, decide_false])
    all_goals (try (simp_all; done))
  · cases h
def v_impl_placesOf_0 (x0 : Nat) : Nat := (if (flt .f64 (if (feq .f64 (m_math_Trunc x0) 0) = true then x0 else (fsub .f64 x0 (m_math_Trunc x0))) 0) = true then (fadd .f64 (if (feq
      .f64 (m_math_Trunc x0) 0) = true then x0 else (fsub .f64 x0 (m_math_Trunc x0))) 4607182418800017408) else (if (feq .f64 (m_math_Trunc x0) 0) = true then x0 else (fsub .f64 x0
      (m_math_Trunc x0))))
def m_impl_placesOf (x0 : Nat) : Nat := (v_impl_placesOf_0 x0)
def g_impl_placesOf : List AV → Option AV
  | [.flt .f64 y0] => some (.flt .f64 (m_impl_placesOf y0))
  | _ => none
def ic94 : ICode := (.seq (.reg [⟨(some 2), none, (.mov (.c (.flt .f64 0)))⟩] [0]) (.seq (.reg [⟨(some 5), none, (.mov (.t 0))⟩, ⟨(some 3), none, (.mov (.t 5))⟩] [0, 3]) (.seq (.seq
      (.reg [⟨(some 6), none, (.mov (.t 0))⟩, ⟨(some 7), none, (.call (.fn 103) [(.t 6)] [])⟩, ⟨(some 4), none, (.mov (.t 7))⟩] [3, 4]) (.seq (.reg [⟨(some 8), none, (.mov (.t 4))⟩,
      ⟨(some 9), none, (.bin .neq false (.t 8) (.c (.flt .f64 0)))⟩] [3, 4, 9]) (.cond (.t 9) (.reg [⟨(some 10), none, (.mov (.t 3))⟩, ⟨(some 11), none, (.mov (.t 4))⟩, ⟨(some 12),
      none, (.bin .sub false (.t 10) (.t 11))⟩, ⟨(some 3), none, (.mov (.t 12))⟩] [3]) .skip))) (.seq (.seq (.reg [⟨(some 13), none, (.mov (.t 3))⟩, ⟨(some 14), none, (.bin .lss
      false (.t 13) (.c (.flt .f64 0)))⟩] [3, 14]) (.cond (.t 14) (.reg [⟨(some 15), none, (.mov (.t 3))⟩, ⟨(some 16), none, (.bin .add false (.t 15) (.c (.flt .f64
      4607182418800017408)))⟩, ⟨(some 3), none, (.mov (.t 16))⟩] [3]) .skip)) (.seq (.reg [⟨(some 17), none, (.mov (.t 3))⟩, ⟨(some 2), none, (.mov (.t 17))⟩] [2]) .ret)))))
def cp94 : CP := { n := 18, kp := [[0], [0, 3], [3, 4], [3, 4, 9], [3], [3, 14], [3], [2]] }
theorem fc94_0 : IntKind.wrap .i64 0 = 0 := by decide
theorem fc94_1 : IntKind.wrap .i64 1 = 1 := by decide
theorem fc94_2 : IntKind.wrap .i64 10 = 10 := by decide
theorem fc94_3 : IntKind.wrap .i64 11 = 11 := by decide
theorem fc94_4 : IntKind.wrap .i64 110 = 110 := by decide
theorem fc94_5 : IntKind.wrap .i64 12 = 12 := by decide
theorem fc94_6 : IntKind.wrap .i64 13 = 13 := by decide
theorem fc94_7 : IntKind.wrap .i64 14 = 14 := by decide
theorem fc94_8 : IntKind.wrap .i64 15 = 15 := by decide
theorem fc94_9 : IntKind.wrap .i64 156 = 156 := by decide
theorem fc94_10 : IntKind.wrap .i64 16 = 16 := by decide
theorem fc94_11 : IntKind.wrap .i64 17 = 17 := by decide
theorem fc94_12 : IntKind.wrap .i64 2 = 2 := by decide
theorem fc94_13 : IntKind.wrap .i64 20 = 20 := by decide
theorem fc94_14 : IntKind.wrap .i64 210 = 210 := by decide
theorem fc94_15 : IntKind.wrap .i64 272 = 272 := by decide
theorem fc94_16 : IntKind.wrap .i64 3 = 3 := by decide
theorem fc94_17 : IntKind.wrap .i64 4 = 4 := by decide
theorem fc94_18 : IntKind.wrap .i64 42 = 42 := by decide
theorem fc94_19 : IntKind.wrap .i64 5 = 5 := by decide
theorem fc94_20 : IntKind.wrap .i64 6 = 6 := by decide
theorem fc94_21 : IntKind.wrap .i64 7 = 7 := by decide
theorem fc94_22 : IntKind.wrap .i64 72 = 72 := by decide
theorem fc94_23 : IntKind.wrap .i64 8 = 8 := by decide
theorem fc94_24 : IntKind.wrap .i64 9 = 9 := by decide
theorem s94 : ∀ vs r, g_impl_placesOf vs = some r → Says Try.prog 94 vs r := by
  intro vs r h
  unfold g_impl_placesOf at h
  split at h
  · rename_i y0
    cases h
    refine spec_of (tab := tabOf [(103, g_math_Trunc)]) (cp := cp94) (ic := ic94) (rvl := [(.t 2)]) hm (tabOk_cons s103 tabOk_nil) Try.func94 rfl rfl rfl (by kernel_rfl) rfl (Nat.le_of_ble_eq_true rfl) ?_
    show eA _ _ _ _
    unfold ic94
    simp only [
        eA_seq, eA_reg, eA_ret, eA_skip, eA_cond, eA_block, eA_exit, eCc_true, eCc_false, Kq_normal, Kq_ret, Kq_exit, Kb_normal, Kb_exit, Kb_ret, Kreg_eq, eI_nil, bindSt_some,
              bindSt_none, bindSt_ite, eR_eq, eGI_tt, eGI_ff, eGI_tf, eGI_ft, eop, vop, ev_t, ev_c, ev_f, Option.map, put_some, put_none, set_eq, setH_eq, get_eq, hp_eq, keep_cons,
              keep_nil, lk_cons, lk_nil, startSt, envOf, reduceIte, Nat.reduceEqDiff, Nat.reduceAdd, Nat.zero_add, Nat.add_zero, Nat.reduceMul, Nat.reduceLT, Nat.reduceLeDiff, bop,
              uop, intop, fltop, convop, true_or, or_true, Bool.false_eq_true, ret_ok, ret_normal, outV, rvV, rvs, ex_some, pureV, pureX, pureX.pure1', pure1, Bool.true_and,
              Bool.false_and, Bool.and_true, Bool.and_false, Option.isNone_none, AV.cells, AV.one, storable, laid, refless, refless1, List.all_cons, List.all_nil, List.length_cons,
              List.length_nil, List.getElem?_cons_zero, List.getElem?_cons_succ, List.set_cons_zero, List.set_cons_succ, List.set_nil, List.map_cons, List.map_nil, vload, loadC,
              storeC, vnil, vfaddr, vextract, callTo, List.mapM_cons, List.mapM_nil, Option.pure_def, Option.bind_eq_bind, Option.bind_some, tabOf_cons, flatT, flatE, flatC,
              and_self, and_true, true_and, implies_true, forall_const, not_true_eq_false, not_false_eq_true, false_implies, List.take_succ_cons, List.drop_succ_cons,
              List.take_zero, List.drop_zero, Bool.not_true, Bool.not_false, beq_self_eq_true, decide_true, decide_false, eq_self, Int.reduceEq, Int.reduceLE, Int.reduceLT,
              Bool.not_not, Bool.true_or, Bool.or_true, Bool.false_or, Bool.or_false, if_true, if_false, List.getElem?_nil, Kl_normal, Kl_exit, Kl_ret, fc94_0, fc94_1, fc94_2,
              fc94_3, fc94_4, fc94_5, fc94_6, fc94_7, fc94_8, fc94_9, fc94_10, fc94_11, fc94_12, fc94_13, fc94_14, fc94_15, fc94_16, fc94_17, fc94_18, fc94_19, fc94_20, fc94_21,
              fc94_22, fc94_23, fc94_24, cast_lit, toNat_lit, Int.reduceAdd, Int.reduceSub, Int.reduceMul, Int.reduceNeg, Int.reducePow, Nat.reducePow, Int.reduceToNat,
              Nat.reduceSub, Nat.mul_one, Int.toNat_zero, prod_eta, List.nil_append, List.cons_append, List.append_nil, vconv, vmm, vidxA, viaddrA, iaddr_sl, iaddr_lsl, getE,
              vfield, vlen, fillC, fillE, List.replicate, elemsOf, List.length_map, f2iK_eq, bits_i64, bits_i32, bits_u64, bits_u32, bits_u8, e_mov, g_mov, e_bin, g_bin, e_call,
              g_call, g_math_Trunc]
    repeat' (first
      | ((first | (refine eGI_of (fun h => ?_) (fun h => ?_)) | (refine eCc_of (fun h => ?_) (fun h => ?_))) <;> (try simp only [Bool.not_eq_true', Bool.not_eq_false'] at h) <;> simp only [h,
        eA_seq, eA_reg, eA_ret, eA_skip, eA_cond, eA_block, eA_exit, eCc_true, eCc_false, Kq_normal, Kq_ret, Kq_exit, Kb_normal, Kb_exit, Kb_ret, Kreg_eq, eI_nil, bindSt_some,
              bindSt_none, bindSt_ite, eR_eq, eGI_tt, eGI_ff, eGI_tf, eGI_ft, eop, vop, ev_t, ev_c, ev_f, Option.map, put_some, put_none, set_eq, setH_eq, get_eq, hp_eq, keep_cons,
              keep_nil, lk_cons, lk_nil, startSt, envOf, reduceIte, Nat.reduceEqDiff, Nat.reduceAdd, Nat.zero_add, Nat.add_zero, Nat.reduceMul, Nat.reduceLT, Nat.reduceLeDiff, bop,
              uop, intop, fltop, convop, true_or, or_true, Bool.false_eq_true, ret_ok, ret_normal, outV, rvV, rvs, ex_some, pureV, pureX, pureX.pure1', pure1, Bool.true_and,
              Bool.false_and, Bool.and_true, Bool.and_false, Option.isNone_none, AV.cells, AV.one, storable, laid, refless, refless1, List.all_cons, List.all_nil, List.length_cons,
              List.length_nil, List.getElem?_cons_zero, List.getElem?_cons_succ, List.set_cons_zero, List.set_cons_succ, List.set_nil, List.map_cons, List.map_nil, vload, loadC,
              storeC, vnil, vfaddr, vextract, callTo, List.mapM_cons, List.mapM_nil, Option.pure_def, Option.bind_eq_bind, Option.bind_some, tabOf_cons, flatT, flatE, flatC,
              and_self, and_true, true_and, implies_true, forall_const, not_true_eq_false, not_false_eq_true, false_implies, List.take_succ_cons, List.drop_succ_cons,
              List.take_zero, List.drop_zero, Bool.not_true, Bool.not_false, beq_self_eq_true, decide_true, decide_false, eq_self, Int.reduceEq, Int.reduceLE, Int.reduceLT,
              Bool.not_not, Bool.true_or, Bool.or_true, Bool.false_or, Bool.or_false, if_true, if_false, List.getElem?_nil, Kl_normal, Kl_exit, Kl_ret, fc94_0, fc94_1, fc94_2,
              fc94_3, fc94_4, fc94_5, fc94_6, fc94_7, fc94_8, fc94_9, fc94_10, fc94_11, fc94_12, fc94_13, fc94_14, fc94_15, fc94_16, fc94_17, fc94_18, fc94_19, fc94_20, fc94_21,
              fc94_22, fc94_23, fc94_24, cast_lit, toNat_lit, Int.reduceAdd, Int.reduceSub, Int.reduceMul, Int.reduceNeg, Int.reducePow, Nat.reducePow, Int.reduceToNat,
              Nat.reduceSub, Nat.mul_one, Int.toNat_zero, prod_eta, List.nil_append, List.cons_append, List.append_nil, vconv, vmm, vidxA, viaddrA, iaddr_sl, iaddr_lsl, getE,
              vfield, vlen, fillC, fillE, List.replicate, elemsOf, List.length_map, f2iK_eq, bits_i64, bits_i32, bits_u64, bits_u32, bits_u8, e_mov, g_mov, e_bin, g_bin, e_call,
              g_call, g_math_Trunc]))
    all_goals (try simp only [*, m_impl_placesOf, v_impl_placesOf_0, Bool.and_true, Bool.true_and, Bool.and_false, Bool.false_and, Bool.or_true, Bool.true_or, Bool.or_false, Bool.false_or, Bool.not_true, Bool.not_false, Bool.false_eq_true, if_true, if_false, reduceIte, decide_true, decide_false])
    all_goals (try (simp_all; done))
  · cases h
def v_impl_sine_0 (x0 : Nat) : Bool := (flt .f64 4598175219545276416 (if (fle .f64 4602678819172646912 (m_impl_placesOf x0)) = true then (fsub .f64 (m_impl_placesOf x0)
      4602678819172646912) else (m_impl_placesOf x0)))
def v_impl_sine_1 (x0 : Nat) : Nat := (fsub .f64 4602678819172646912 (if (fle .f64 4602678819172646912 (m_impl_placesOf x0)) = true then (fsub .f64 (m_impl_placesOf x0)
      4602678819172646912) else (m_impl_placesOf x0)))
def v_impl_sine_2 (x0 : Nat) : Nat := (if (v_impl_sine_0 x0) = true then (v_impl_sine_1 x0) else (if (fle .f64 4602678819172646912 (m_impl_placesOf x0)) = true then (fsub .f64
      (m_impl_placesOf x0) 4602678819172646912) else (m_impl_placesOf x0)))
def v_impl_sine_3 (x0 : Nat) : Nat := (fdiv .f64 (fmul .f64 (fmul .f64 (fmul .f64 (v_impl_sine_2 x0) 4618760256179416344) (fmul .f64 (v_impl_sine_2 x0) 4618760256179416344))
      4607182418800017408) (ofInt .f64 272))
def v_impl_sine_4 (x0 : Nat) : Nat := (fmul .f64 (fmul .f64 (fmul .f64 (v_impl_sine_2 x0) 4618760256179416344) (fmul .f64 (v_impl_sine_2 x0) 4618760256179416344)) (fsub .f64
      4607182418800017408 (v_impl_sine_3 x0)))
def v_impl_sine_5 (x0 : Nat) : Nat := (fmul .f64 (fmul .f64 (fmul .f64 (v_impl_sine_2 x0) 4618760256179416344) (fmul .f64 (v_impl_sine_2 x0) 4618760256179416344)) (fsub .f64
      4607182418800017408 (fdiv .f64 (v_impl_sine_4 x0) (ofInt .f64 210))))
def v_impl_sine_6 (x0 : Nat) : Nat := (fmul .f64 (fmul .f64 (fmul .f64 (v_impl_sine_2 x0) 4618760256179416344) (fmul .f64 (v_impl_sine_2 x0) 4618760256179416344)) (fsub .f64
      4607182418800017408 (fdiv .f64 (v_impl_sine_5 x0) (ofInt .f64 156))))
def v_impl_sine_7 (x0 : Nat) : Nat := (fmul .f64 (fmul .f64 (fmul .f64 (v_impl_sine_2 x0) 4618760256179416344) (fmul .f64 (v_impl_sine_2 x0) 4618760256179416344)) (fsub .f64
      4607182418800017408 (fdiv .f64 (v_impl_sine_6 x0) (ofInt .f64 110))))
def v_impl_sine_8 (x0 : Nat) : Nat := (fmul .f64 (fmul .f64 (fmul .f64 (v_impl_sine_2 x0) 4618760256179416344) (fmul .f64 (v_impl_sine_2 x0) 4618760256179416344)) (fsub .f64
      4607182418800017408 (fdiv .f64 (v_impl_sine_7 x0) (ofInt .f64 72))))
def v_impl_sine_9 (x0 : Nat) : Nat := (fmul .f64 (fmul .f64 (fmul .f64 (v_impl_sine_2 x0) 4618760256179416344) (fmul .f64 (v_impl_sine_2 x0) 4618760256179416344)) (fsub .f64
      4607182418800017408 (fdiv .f64 (v_impl_sine_8 x0) (ofInt .f64 42))))
def v_impl_sine_10 (x0 : Nat) : Nat := (fmul .f64 (fmul .f64 (fmul .f64 (v_impl_sine_2 x0) 4618760256179416344) (fmul .f64 (v_impl_sine_2 x0) 4618760256179416344)) (fsub .f64
      4607182418800017408 (fdiv .f64 (v_impl_sine_9 x0) (ofInt .f64 20))))
def m_impl_sine (x0 : Nat) : Nat := (if (fle .f64 4602678819172646912 (m_impl_placesOf x0)) = true then (fneg .f64 (fmul .f64 (fmul .f64 (v_impl_sine_2 x0) 4618760256179416344)
      (fsub .f64 4607182418800017408 (fdiv .f64 (v_impl_sine_10 x0) (ofInt .f64 6))))) else (fmul .f64 (fmul .f64 (v_impl_sine_2 x0) 4618760256179416344) (fsub .f64
      4607182418800017408 (fdiv .f64 (v_impl_sine_10 x0) (ofInt .f64 6)))))
def g_impl_sine : List AV → Option AV
  | [.flt .f64 y0] => some (.flt .f64 (m_impl_sine y0))
  | _ => none
def ic74 : ICode := (.seq (.reg [⟨(some 2), none, (.mov (.c (.flt .f64 0)))⟩] [0]) (.seq (.reg [⟨(some 9), none, (.mov (.t 0))⟩, ⟨(some 10), none, (.call (.fn 94) [(.t 9)] [])⟩,
      ⟨(some 3), none, (.mov (.t 10))⟩] [3]) (.seq (.reg [⟨(some 11), none, (.mov (.t 3))⟩, ⟨(some 12), none, (.bin .geq false (.t 11) (.c (.flt .f64 4602678819172646912)))⟩, ⟨(some
      4), none, (.mov (.t 12))⟩] [3, 4]) (.seq (.seq (.reg [⟨(some 13), none, (.mov (.t 4))⟩] [3, 4, 13]) (.cond (.t 13) (.reg [⟨(some 14), none, (.mov (.t 3))⟩, ⟨(some 15), none,
      (.bin .sub false (.t 14) (.c (.flt .f64 4602678819172646912)))⟩, ⟨(some 3), none, (.mov (.t 15))⟩] [3, 4]) .skip)) (.seq (.seq (.reg [⟨(some 16), none, (.mov (.t 3))⟩, ⟨(some
      17), none, (.bin .gtr false (.t 16) (.c (.flt .f64 4598175219545276416)))⟩] [3, 4, 17]) (.cond (.t 17) (.reg [⟨(some 18), none, (.mov (.t 3))⟩, ⟨(some 19), none, (.bin .sub
      false (.c (.flt .f64 4602678819172646912)) (.t 18))⟩, ⟨(some 3), none, (.mov (.t 19))⟩] [3, 4]) .skip)) (.seq (.reg [⟨(some 20), none, (.mov (.t 3))⟩, ⟨(some 21), none, (.bin
      .mul false (.t 20) (.c (.flt .f64 4618760256179416344)))⟩, ⟨(some 5), none, (.mov (.t 21))⟩] [4, 5]) (.seq (.reg [⟨(some 22), none, (.mov (.t 5))⟩, ⟨(some 23), none, (.mov (.t
      5))⟩, ⟨(some 24), none, (.bin .mul false (.t 22) (.t 23))⟩, ⟨(some 6), none, (.mov (.t 24))⟩] [4, 5, 6]) (.seq (.reg [⟨(some 7), none, (.mov (.c (.flt .f64
      4607182418800017408)))⟩] [4, 5, 6, 7]) (.seq (.seq (.reg [⟨(some 8), none, (.mov (.c (.int .i64 8)))⟩] [4, 5, 6, 7, 8]) (.block 0 (.loop (.seq (.seq (.reg [⟨(some 25), none,
      (.mov (.t 8))⟩, ⟨(some 26), none, (.bin .geq false (.t 25) (.c (.int .i64 1)))⟩] [4, 5, 6, 7, 8, 26]) (.cond (.t 26) .skip (.exit 0))) (.seq (.block 1 (.reg [⟨(some 29), none,
      (.mov (.t 6))⟩, ⟨(some 30), none, (.mov (.t 7))⟩, ⟨(some 31), none, (.bin .mul false (.t 29) (.t 30))⟩, ⟨(some 32), none, (.mov (.t 8))⟩, ⟨(some 33), none, (.bin .mul false
      (.c (.int .i64 2)) (.t 32))⟩, ⟨(some 34), none, (.mov (.t 8))⟩, ⟨(some 35), none, (.bin .mul false (.c (.int .i64 2)) (.t 34))⟩, ⟨(some 36), none, (.bin .add false (.t 35) (.c
      (.int .i64 1)))⟩, ⟨(some 37), none, (.bin .mul false (.t 33) (.t 36))⟩, ⟨(some 38), none, (.conv (.flt .f64) (.t 37))⟩, ⟨(some 39), none, (.bin .quo false (.t 31) (.t 38))⟩,
      ⟨(some 40), none, (.bin .sub false (.c (.flt .f64 4607182418800017408)) (.t 39))⟩, ⟨(some 7), none, (.mov (.t 40))⟩] [4, 5, 6, 7, 8])) (.reg [⟨(some 27), none, (.mov (.t 8))⟩,
      ⟨(some 28), none, (.bin .sub false (.t 27) (.c (.int .i64 1)))⟩, ⟨(some 8), none, (.mov (.t 28))⟩] [4, 5, 6, 7, 8])))))) (.seq (.seq (.reg [⟨(some 41), none, (.mov (.t 4))⟩]
      [5, 7, 41]) (.cond (.t 41) (.seq (.reg [⟨(some 42), none, (.mov (.t 5))⟩, ⟨(some 43), none, (.mov (.t 7))⟩, ⟨(some 44), none, (.bin .mul false (.t 42) (.t 43))⟩, ⟨(some 45),
      none, (.un .neg (.t 44))⟩, ⟨(some 2), none, (.mov (.t 45))⟩] [2]) .ret) .skip)) (.seq (.reg [⟨(some 46), none, (.mov (.t 5))⟩, ⟨(some 47), none, (.mov (.t 7))⟩, ⟨(some 48),
      none, (.bin .mul false (.t 46) (.t 47))⟩, ⟨(some 2), none, (.mov (.t 48))⟩] [2]) .ret)))))))))))
def cp74 : CP := { n := 49, kp := [[0], [3], [3, 4], [3, 4, 13], [3, 4], [3, 4, 17], [3, 4], [4, 5], [4, 5, 6], [4, 5, 6, 7], [4, 5, 6, 7, 8], [4, 5, 6, 7, 8, 26], [4, 5, 6, 7, 8],
      [4, 5, 6, 7, 8], [5, 7, 41], [2], [2]] }
theorem fc74_0 : IntKind.wrap .i64 0 = 0 := by decide
theorem fc74_1 : IntKind.wrap .i64 1 = 1 := by decide
theorem fc74_2 : IntKind.wrap .i64 10 = 10 := by decide
theorem fc74_3 : IntKind.wrap .i64 11 = 11 := by decide
theorem fc74_4 : IntKind.wrap .i64 110 = 110 := by decide
theorem fc74_5 : IntKind.wrap .i64 12 = 12 := by decide
theorem fc74_6 : IntKind.wrap .i64 13 = 13 := by decide
theorem fc74_7 : IntKind.wrap .i64 14 = 14 := by decide
theorem fc74_8 : IntKind.wrap .i64 15 = 15 := by decide
theorem fc74_9 : IntKind.wrap .i64 156 = 156 := by decide
theorem fc74_10 : IntKind.wrap .i64 16 = 16 := by decide
theorem fc74_11 : IntKind.wrap .i64 17 = 17 := by decide
theorem fc74_12 : IntKind.wrap .i64 2 = 2 := by decide
theorem fc74_13 : IntKind.wrap .i64 20 = 20 := by decide
theorem fc74_14 : IntKind.wrap .i64 210 = 210 := by decide
theorem fc74_15 : IntKind.wrap .i64 272 = 272 := by decide
theorem fc74_16 : IntKind.wrap .i64 3 = 3 := by decide
theorem fc74_17 : IntKind.wrap .i64 4 = 4 := by decide
theorem fc74_18 : IntKind.wrap .i64 42 = 42 := by decide
theorem fc74_19 : IntKind.wrap .i64 5 = 5 := by decide
theorem fc74_20 : IntKind.wrap .i64 6 = 6 := by decide
theorem fc74_21 : IntKind.wrap .i64 7 = 7 := by decide
theorem fc74_22 : IntKind.wrap .i64 72 = 72 := by decide
theorem fc74_23 : IntKind.wrap .i64 8 = 8 := by decide
theorem fc74_24 : IntKind.wrap .i64 9 = 9 := by decide
theorem s74 : ∀ vs r, g_impl_sine vs = some r → Says Try.prog 74 vs r := by
  intro vs r h
  unfold g_impl_sine at h
  split at h
  · rename_i y0
    cases h
    refine spec_of (tab := tabOf [(94, g_impl_placesOf)]) (cp := cp74) (ic := ic74) (rvl := [(.t 2)]) hm (tabOk_cons s94 tabOk_nil) Try.func74 rfl rfl rfl (by kernel_rfl) rfl (Nat.le_of_ble_eq_true rfl) ?_
    show eA _ _ _ _
    unfold ic74
    simp only [
        eA_seq, eA_reg, eA_ret, eA_skip, eA_cond, eA_block, eA_exit, eCc_true, eCc_false, Kq_normal, Kq_ret, Kq_exit, Kb_normal, Kb_exit, Kb_ret, Kreg_eq, eI_nil, bindSt_some,
              bindSt_none, bindSt_ite, eR_eq, eGI_tt, eGI_ff, eGI_tf, eGI_ft, eop, vop, ev_t, ev_c, ev_f, Option.map, put_some, put_none, set_eq, setH_eq, get_eq, hp_eq, keep_cons,
              keep_nil, lk_cons, lk_nil, startSt, envOf, reduceIte, Nat.reduceEqDiff, Nat.reduceAdd, Nat.zero_add, Nat.add_zero, Nat.reduceMul, Nat.reduceLT, Nat.reduceLeDiff, bop,
              uop, intop, fltop, convop, true_or, or_true, Bool.false_eq_true, ret_ok, ret_normal, outV, rvV, rvs, ex_some, pureV, pureX, pureX.pure1', pure1, Bool.true_and,
              Bool.false_and, Bool.and_true, Bool.and_false, Option.isNone_none, AV.cells, AV.one, storable, laid, refless, refless1, List.all_cons, List.all_nil, List.length_cons,
              List.length_nil, List.getElem?_cons_zero, List.getElem?_cons_succ, List.set_cons_zero, List.set_cons_succ, List.set_nil, List.map_cons, List.map_nil, vload, loadC,
              storeC, vnil, vfaddr, vextract, callTo, List.mapM_cons, List.mapM_nil, Option.pure_def, Option.bind_eq_bind, Option.bind_some, tabOf_cons, flatT, flatE, flatC,
              and_self, and_true, true_and, implies_true, forall_const, not_true_eq_false, not_false_eq_true, false_implies, List.take_succ_cons, List.drop_succ_cons,
              List.take_zero, List.drop_zero, Bool.not_true, Bool.not_false, beq_self_eq_true, decide_true, decide_false, eq_self, Int.reduceEq, Int.reduceLE, Int.reduceLT,
              Bool.not_not, Bool.true_or, Bool.or_true, Bool.false_or, Bool.or_false, if_true, if_false, List.getElem?_nil, Kl_normal, Kl_exit, Kl_ret, fc74_0, fc74_1, fc74_2,
              fc74_3, fc74_4, fc74_5, fc74_6, fc74_7, fc74_8, fc74_9, fc74_10, fc74_11, fc74_12, fc74_13, fc74_14, fc74_15, fc74_16, fc74_17, fc74_18, fc74_19, fc74_20, fc74_21,
              fc74_22, fc74_23, fc74_24, cast_lit, toNat_lit, Int.reduceAdd, Int.reduceSub, Int.reduceMul, Int.reduceNeg, Int.reducePow, Nat.reducePow, Int.reduceToNat,
              Nat.reduceSub, Nat.mul_one, Int.toNat_zero, prod_eta, List.nil_append, List.cons_append, List.append_nil, vconv, vmm, vidxA, viaddrA, iaddr_sl, iaddr_lsl, getE,
              vfield, vlen, fillC, fillE, List.replicate, elemsOf, List.length_map, f2iK_eq, bits_i64, bits_i32, bits_u64, bits_u32, bits_u8, e_mov, g_mov, e_bin, g_bin, e_un, g_un,
              e_conv, g_conv, e_call, g_call, g_impl_placesOf]
    repeat' (first
      | ((first | (refine eGI_of (fun h => ?_) (fun h => ?_)) | (refine eCc_of (fun h => ?_) (fun h => ?_)) | (have h := True.intro; refine KW_refl ?_) | (have h := True.intro; refine eA_loop ?_)) <;> (try simp only [Bool.not_eq_true', Bool.not_eq_false'] at h) <;> simp only [h,
        eA_seq, eA_reg, eA_ret, eA_skip, eA_cond, eA_block, eA_exit, eCc_true, eCc_false, Kq_normal, Kq_ret, Kq_exit, Kb_normal, Kb_exit, Kb_ret, Kreg_eq, eI_nil, bindSt_some,
              bindSt_none, bindSt_ite, eR_eq, eGI_tt, eGI_ff, eGI_tf, eGI_ft, eop, vop, ev_t, ev_c, ev_f, Option.map, put_some, put_none, set_eq, setH_eq, get_eq, hp_eq, keep_cons,
              keep_nil, lk_cons, lk_nil, startSt, envOf, reduceIte, Nat.reduceEqDiff, Nat.reduceAdd, Nat.zero_add, Nat.add_zero, Nat.reduceMul, Nat.reduceLT, Nat.reduceLeDiff, bop,
              uop, intop, fltop, convop, true_or, or_true, Bool.false_eq_true, ret_ok, ret_normal, outV, rvV, rvs, ex_some, pureV, pureX, pureX.pure1', pure1, Bool.true_and,
              Bool.false_and, Bool.and_true, Bool.and_false, Option.isNone_none, AV.cells, AV.one, storable, laid, refless, refless1, List.all_cons, List.all_nil, List.length_cons,
              List.length_nil, List.getElem?_cons_zero, List.getElem?_cons_succ, List.set_cons_zero, List.set_cons_succ, List.set_nil, List.map_cons, List.map_nil, vload, loadC,
              storeC, vnil, vfaddr, vextract, callTo, List.mapM_cons, List.mapM_nil, Option.pure_def, Option.bind_eq_bind, Option.bind_some, tabOf_cons, flatT, flatE, flatC,
              and_self, and_true, true_and, implies_true, forall_const, not_true_eq_false, not_false_eq_true, false_implies, List.take_succ_cons, List.drop_succ_cons,
              List.take_zero, List.drop_zero, Bool.not_true, Bool.not_false, beq_self_eq_true, decide_true, decide_false, eq_self, Int.reduceEq, Int.reduceLE, Int.reduceLT,
              Bool.not_not, Bool.true_or, Bool.or_true, Bool.false_or, Bool.or_false, if_true, if_false, List.getElem?_nil, Kl_normal, Kl_exit, Kl_ret, fc74_0, fc74_1, fc74_2,
              fc74_3, fc74_4, fc74_5, fc74_6, fc74_7, fc74_8, fc74_9, fc74_10, fc74_11, fc74_12, fc74_13, fc74_14, fc74_15, fc74_16, fc74_17, fc74_18, fc74_19, fc74_20, fc74_21,
              fc74_22, fc74_23, fc74_24, cast_lit, toNat_lit, Int.reduceAdd, Int.reduceSub, Int.reduceMul, Int.reduceNeg, Int.reducePow, Nat.reducePow, Int.reduceToNat,
              Nat.reduceSub, Nat.mul_one, Int.toNat_zero, prod_eta, List.nil_append, List.cons_append, List.append_nil, vconv, vmm, vidxA, viaddrA, iaddr_sl, iaddr_lsl, getE,
              vfield, vlen, fillC, fillE, List.replicate, elemsOf, List.length_map, f2iK_eq, bits_i64, bits_i32, bits_u64, bits_u32, bits_u8, e_mov, g_mov, e_bin, g_bin, e_un, g_un,
              e_conv, g_conv, e_call, g_call, g_impl_placesOf]))
    all_goals (try simp only [*, m_impl_sine, v_impl_sine_0, v_impl_sine_1, v_impl_sine_2, v_impl_sine_3, v_impl_sine_4, v_impl_sine_5, v_impl_sine_6, v_impl_sine_7, v_impl_sine_8, v_impl_sine_9, v_impl_sine_10, Bool.and_true, Bool.true_and, Bool.and_false, Bool.false_and, Bool.or_true, Bool.true_or, Bool.or_false, Bool.false_or, Bool.not_true, Bool.not_false, Bool.false_eq_true, if_true, if_false, reduceIte, decide_true, decide_false])
    all_goals (try (simp_all; done))
  · cases h
def m_impl_wideSine (x0 : Nat) : Nat := (if (feq .f64 (fsub .f64 x0 x0) 0) = true then (if (fle .f64 4841369599423283200 (fabs x0)) = true then 0 else (m_impl_sine x0)) else
      (m_math_NaN))
def g_impl_wideSine : List AV → Option AV
  | [.flt .f64 y0] => some (.flt .f64 (m_impl_wideSine y0))
  | _ => none
def ic54 : ICode := (.seq (.reg [⟨(some 2), none, (.mov (.c (.flt .f64 0)))⟩] [0]) (.seq (.block 0 (.seq (.reg [⟨(some 4), none, (.mov (.t 0))⟩, ⟨(some 5), none, (.mov (.t 0))⟩,
      ⟨(some 6), none, (.bin .sub false (.t 4) (.t 5))⟩, ⟨(some 7), none, (.bin .neq false (.t 6) (.c (.flt .f64 0)))⟩, ⟨(some 3), none, (.mov (.t 7))⟩] [0, 3]) (.cond (.t 3) (.seq
      (.reg [⟨(some 8), none, (.call (.fn 73) [] [])⟩, ⟨(some 2), none, (.mov (.t 8))⟩] [2]) .ret) (.seq (.reg [⟨(some 10), none, (.mov (.t 0))⟩, ⟨(some 11), none, (.call (.fn 71)
      [(.t 10)] [])⟩, ⟨(some 12), none, (.bin .geq false (.t 11) (.c (.flt .f64 4841369599423283200)))⟩, ⟨(some 9), none, (.mov (.t 12))⟩] [0, 9]) (.cond (.t 9) (.seq (.reg [⟨(some
      2), none, (.mov (.c (.flt .f64 0)))⟩] [2]) .ret) .skip))))) (.seq (.reg [⟨(some 13), none, (.mov (.t 0))⟩, ⟨(some 14), none, (.call (.fn 74) [(.t 13)] [])⟩, ⟨(some 2), none,
      (.mov (.t 14))⟩] [2]) .ret)))
def cp54 : CP := { n := 15, kp := [[0], [0, 3], [2], [0, 9], [2], [2]] }
theorem fc54_0 : IntKind.wrap .i64 0 = 0 := by decide
theorem fc54_1 : IntKind.wrap .i64 1 = 1 := by decide
theorem fc54_2 : IntKind.wrap .i64 10 = 10 := by decide
theorem fc54_3 : IntKind.wrap .i64 11 = 11 := by decide
theorem fc54_4 : IntKind.wrap .i64 110 = 110 := by decide
theorem fc54_5 : IntKind.wrap .i64 12 = 12 := by decide
theorem fc54_6 : IntKind.wrap .i64 13 = 13 := by decide
theorem fc54_7 : IntKind.wrap .i64 14 = 14 := by decide
theorem fc54_8 : IntKind.wrap .i64 15 = 15 := by decide
theorem fc54_9 : IntKind.wrap .i64 156 = 156 := by decide
theorem fc54_10 : IntKind.wrap .i64 16 = 16 := by decide
theorem fc54_11 : IntKind.wrap .i64 17 = 17 := by decide
theorem fc54_12 : IntKind.wrap .i64 2 = 2 := by decide
theorem fc54_13 : IntKind.wrap .i64 20 = 20 := by decide
theorem fc54_14 : IntKind.wrap .i64 210 = 210 := by decide
theorem fc54_15 : IntKind.wrap .i64 272 = 272 := by decide
theorem fc54_16 : IntKind.wrap .i64 3 = 3 := by decide
theorem fc54_17 : IntKind.wrap .i64 4 = 4 := by decide
theorem fc54_18 : IntKind.wrap .i64 42 = 42 := by decide
theorem fc54_19 : IntKind.wrap .i64 5 = 5 := by decide
theorem fc54_20 : IntKind.wrap .i64 6 = 6 := by decide
theorem fc54_21 : IntKind.wrap .i64 7 = 7 := by decide
theorem fc54_22 : IntKind.wrap .i64 72 = 72 := by decide
theorem fc54_23 : IntKind.wrap .i64 8 = 8 := by decide
theorem fc54_24 : IntKind.wrap .i64 9 = 9 := by decide
theorem s54 : ∀ vs r, g_impl_wideSine vs = some r → Says Try.prog 54 vs r := by
  intro vs r h
  unfold g_impl_wideSine at h
  split at h
  · rename_i y0
    cases h
    refine spec_of (tab := tabOf [(71, g_abs), (73, g_math_NaN), (74, g_impl_sine)]) (cp := cp54) (ic := ic54) (rvl := [(.t 2)]) hm (tabOk_cons s71 (tabOk_cons s73 (tabOk_cons s74 tabOk_nil))) Try.func54 rfl rfl rfl (by kernel_rfl) rfl (Nat.le_of_ble_eq_true rfl) ?_
    show eA _ _ _ _
    unfold ic54
    simp only [
        eA_seq, eA_reg, eA_ret, eA_skip, eA_cond, eA_block, eA_exit, eCc_true, eCc_false, Kq_normal, Kq_ret, Kq_exit, Kb_normal, Kb_exit, Kb_ret, Kreg_eq, eI_nil, bindSt_some,
              bindSt_none, bindSt_ite, eR_eq, eGI_tt, eGI_ff, eGI_tf, eGI_ft, eop, vop, ev_t, ev_c, ev_f, Option.map, put_some, put_none, set_eq, setH_eq, get_eq, hp_eq, keep_cons,
              keep_nil, lk_cons, lk_nil, startSt, envOf, reduceIte, Nat.reduceEqDiff, Nat.reduceAdd, Nat.zero_add, Nat.add_zero, Nat.reduceMul, Nat.reduceLT, Nat.reduceLeDiff, bop,
              uop, intop, fltop, convop, true_or, or_true, Bool.false_eq_true, ret_ok, ret_normal, outV, rvV, rvs, ex_some, pureV, pureX, pureX.pure1', pure1, Bool.true_and,
              Bool.false_and, Bool.and_true, Bool.and_false, Option.isNone_none, AV.cells, AV.one, storable, laid, refless, refless1, List.all_cons, List.all_nil, List.length_cons,
              List.length_nil, List.getElem?_cons_zero, List.getElem?_cons_succ, List.set_cons_zero, List.set_cons_succ, List.set_nil, List.map_cons, List.map_nil, vload, loadC,
              storeC, vnil, vfaddr, vextract, callTo, List.mapM_cons, List.mapM_nil, Option.pure_def, Option.bind_eq_bind, Option.bind_some, tabOf_cons, flatT, flatE, flatC,
              and_self, and_true, true_and, implies_true, forall_const, not_true_eq_false, not_false_eq_true, false_implies, List.take_succ_cons, List.drop_succ_cons,
              List.take_zero, List.drop_zero, Bool.not_true, Bool.not_false, beq_self_eq_true, decide_true, decide_false, eq_self, Int.reduceEq, Int.reduceLE, Int.reduceLT,
              Bool.not_not, Bool.true_or, Bool.or_true, Bool.false_or, Bool.or_false, if_true, if_false, List.getElem?_nil, Kl_normal, Kl_exit, Kl_ret, fc54_0, fc54_1, fc54_2,
              fc54_3, fc54_4, fc54_5, fc54_6, fc54_7, fc54_8, fc54_9, fc54_10, fc54_11, fc54_12, fc54_13, fc54_14, fc54_15, fc54_16, fc54_17, fc54_18, fc54_19, fc54_20, fc54_21,
              fc54_22, fc54_23, fc54_24, cast_lit, toNat_lit, Int.reduceAdd, Int.reduceSub, Int.reduceMul, Int.reduceNeg, Int.reducePow, Nat.reducePow, Int.reduceToNat,
              Nat.reduceSub, Nat.mul_one, Int.toNat_zero, prod_eta, List.nil_append, List.cons_append, List.append_nil, vconv, vmm, vidxA, viaddrA, iaddr_sl, iaddr_lsl, getE,
              vfield, vlen, fillC, fillE, List.replicate, elemsOf, List.length_map, f2iK_eq, bits_i64, bits_i32, bits_u64, bits_u32, bits_u8, e_mov, g_mov, e_bin, g_bin, e_call,
              g_call, g_abs, g_math_NaN, g_impl_sine]
    repeat' (first
      | ((first | (refine eGI_of (fun h => ?_) (fun h => ?_)) | (refine eCc_of (fun h => ?_) (fun h => ?_)) | (have h := True.intro; refine KW_refl ?_)) <;> (try simp only [Bool.not_eq_true', Bool.not_eq_false'] at h) <;> simp only [h,
        eA_seq, eA_reg, eA_ret, eA_skip, eA_cond, eA_block, eA_exit, eCc_true, eCc_false, Kq_normal, Kq_ret, Kq_exit, Kb_normal, Kb_exit, Kb_ret, Kreg_eq, eI_nil, bindSt_some,
              bindSt_none, bindSt_ite, eR_eq, eGI_tt, eGI_ff, eGI_tf, eGI_ft, eop, vop, ev_t, ev_c, ev_f, Option.map, put_some, put_none, set_eq, setH_eq, get_eq, hp_eq, keep_cons,
              keep_nil, lk_cons, lk_nil, startSt, envOf, reduceIte, Nat.reduceEqDiff, Nat.reduceAdd, Nat.zero_add, Nat.add_zero, Nat.reduceMul, Nat.reduceLT, Nat.reduceLeDiff, bop,
              uop, intop, fltop, convop, true_or, or_true, Bool.false_eq_true, ret_ok, ret_normal, outV, rvV, rvs, ex_some, pureV, pureX, pureX.pure1', pure1, Bool.true_and,
              Bool.false_and, Bool.and_true, Bool.and_false, Option.isNone_none, AV.cells, AV.one, storable, laid, refless, refless1, List.all_cons, List.all_nil, List.length_cons,
              List.length_nil, List.getElem?_cons_zero, List.getElem?_cons_succ, List.set_cons_zero, List.set_cons_succ, List.set_nil, List.map_cons, List.map_nil, vload, loadC,
              storeC, vnil, vfaddr, vextract, callTo, List.mapM_cons, List.mapM_nil, Option.pure_def, Option.bind_eq_bind, Option.bind_some, tabOf_cons, flatT, flatE, flatC,
              and_self, and_true, true_and, implies_true, forall_const, not_true_eq_false, not_false_eq_true, false_implies, List.take_succ_cons, List.drop_succ_cons,
              List.take_zero, List.drop_zero, Bool.not_true, Bool.not_false, beq_self_eq_true, decide_true, decide_false, eq_self, Int.reduceEq, Int.reduceLE, Int.reduceLT,
              Bool.not_not, Bool.true_or, Bool.or_true, Bool.false_or, Bool.or_false, if_true, if_false, List.getElem?_nil, Kl_normal, Kl_exit, Kl_ret, fc54_0, fc54_1, fc54_2,
              fc54_3, fc54_4, fc54_5, fc54_6, fc54_7, fc54_8, fc54_9, fc54_10, fc54_11, fc54_12, fc54_13, fc54_14, fc54_15, fc54_16, fc54_17, fc54_18, fc54_19, fc54_20, fc54_21,
              fc54_22, fc54_23, fc54_24, cast_lit, toNat_lit, Int.reduceAdd, Int.reduceSub, Int.reduceMul, Int.reduceNeg, Int.reducePow, Nat.reducePow, Int.reduceToNat,
              Nat.reduceSub, Nat.mul_one, Int.toNat_zero, prod_eta, List.nil_append, List.cons_append, List.append_nil, vconv, vmm, vidxA, viaddrA, iaddr_sl, iaddr_lsl, getE,
              vfield, vlen, fillC, fillE, List.replicate, elemsOf, List.length_map, f2iK_eq, bits_i64, bits_i32, bits_u64, bits_u32, bits_u8, e_mov, g_mov, e_bin, g_bin, e_call,
              g_call, g_abs, g_math_NaN, g_impl_sine]))
    all_goals (try simp only [*, m_impl_wideSine, Bool.and_true, Bool.true_and, Bool.and_false, Bool.false_and, Bool.or_true, Bool.true_or, Bool.or_false, Bool.false_or, Bool.not_true, Bool.not_false, Bool.false_eq_true, if_true, if_false, reduceIte, decide_true, decide_false])
    all_goals (try (simp_all; done))
  · cases h
def m_impl_Vector_over (x0 : (Nat × Nat × Nat)) (x1 : Nat) : (Nat × Nat × Nat) := ((fdiv .f32 x0.1 x1), (fdiv .f32 x0.2.1 x1), (fdiv .f32 x0.2.2 x1))
def g_impl_Vector_over : List AV → Option AV
  | [.agg [.flt .f32 y0, .flt .f32 y1, .flt .f32 y2], .flt .f32 y3] => some (AV.agg [(.flt .f32 (m_impl_Vector_over (y0, y1, y2) y3).1),
      (.flt .f32 (m_impl_Vector_over (y0, y1, y2) y3).2.1), (.flt .f32 (m_impl_Vector_over (y0, y1, y2) y3).2.2)])
  | _ => none
def ic45 : ICode := (.seq (.reg [⟨(some 2), none, (.box 3 (.t 0))⟩, ⟨(some 4), none, (.alloc (.agg [(.flt .f32 0), (.flt .f32 0), (.flt .f32 0)]))⟩] [1, 2, 4]) (.seq (.reg [⟨(some
      5), none, (.faddr 0 (.t 2))⟩, ⟨(some 6), none, (.load none (.t 5))⟩, ⟨(some 7), none, (.mov (.t 1))⟩, ⟨(some 8), none, (.bin .quo false (.t 6) (.t 7))⟩, ⟨(some 9), none,
      (.faddr 1 (.t 2))⟩, ⟨(some 10), none, (.load none (.t 9))⟩, ⟨(some 11), none, (.mov (.t 1))⟩, ⟨(some 12), none, (.bin .quo false (.t 10) (.t 11))⟩, ⟨(some 13), none, (.faddr 2
      (.t 2))⟩, ⟨(some 14), none, (.load none (.t 13))⟩, ⟨(some 15), none, (.mov (.t 1))⟩, ⟨(some 16), none, (.bin .quo false (.t 14) (.t 15))⟩, ⟨(some 17), none, (.build [(.flt
      .f32 0), (.flt .f32 0), (.flt .f32 0)] [(0, 1, (.t 8)), (1, 1, (.t 12)), (2, 1, (.t 16))])⟩, ⟨none, none, (.store 3 (.t 4) (.t 17))⟩] [4]) .ret))
def cp45 : CP := { n := 18, kp := [[1, 2, 4], [4]] }
theorem fc45_0 : IntKind.wrap .i64 0 = 0 := by decide
theorem fc45_1 : IntKind.wrap .i64 1 = 1 := by decide
theorem fc45_2 : IntKind.wrap .i64 10 = 10 := by decide
theorem fc45_3 : IntKind.wrap .i64 11 = 11 := by decide
theorem fc45_4 : IntKind.wrap .i64 110 = 110 := by decide
theorem fc45_5 : IntKind.wrap .i64 12 = 12 := by decide
theorem fc45_6 : IntKind.wrap .i64 13 = 13 := by decide
theorem fc45_7 : IntKind.wrap .i64 14 = 14 := by decide
theorem fc45_8 : IntKind.wrap .i64 15 = 15 := by decide
theorem fc45_9 : IntKind.wrap .i64 156 = 156 := by decide
theorem fc45_10 : IntKind.wrap .i64 16 = 16 := by decide
theorem fc45_11 : IntKind.wrap .i64 17 = 17 := by decide
theorem fc45_12 : IntKind.wrap .i64 2 = 2 := by decide
theorem fc45_13 : IntKind.wrap .i64 20 = 20 := by decide
theorem fc45_14 : IntKind.wrap .i64 210 = 210 := by decide
theorem fc45_15 : IntKind.wrap .i64 272 = 272 := by decide
theorem fc45_16 : IntKind.wrap .i64 3 = 3 := by decide
theorem fc45_17 : IntKind.wrap .i64 4 = 4 := by decide
theorem fc45_18 : IntKind.wrap .i64 42 = 42 := by decide
theorem fc45_19 : IntKind.wrap .i64 5 = 5 := by decide
theorem fc45_20 : IntKind.wrap .i64 6 = 6 := by decide
theorem fc45_21 : IntKind.wrap .i64 7 = 7 := by decide
theorem fc45_22 : IntKind.wrap .i64 72 = 72 := by decide
theorem fc45_23 : IntKind.wrap .i64 8 = 8 := by decide
theorem fc45_24 : IntKind.wrap .i64 9 = 9 := by decide
theorem s45 : ∀ vs r, g_impl_Vector_over vs = some r → Says Try.prog 45 vs r := by
  intro vs r h
  unfold g_impl_Vector_over at h
  split at h
  · rename_i y0 y1 y2 y3
    cases h
    refine spec_of (tab := tabOf []) (cp := cp45) (ic := ic45) (rvl := [(.c 4 (some 3))]) hm tabOk_nil Try.func45 rfl rfl rfl (by kernel_rfl) rfl (Nat.le_of_ble_eq_true rfl) ?_
    show eA _ _ _ _
    unfold ic45
    simp only [
        eA_seq, eA_reg, eA_ret, eA_skip, eA_cond, eA_block, eA_exit, eCc_true, eCc_false, Kq_normal, Kq_ret, Kq_exit, Kb_normal, Kb_exit, Kb_ret, Kreg_eq, eI_nil, bindSt_some,
              bindSt_none, bindSt_ite, eR_eq, eGI_tt, eGI_ff, eGI_tf, eGI_ft, eop, vop, ev_t, ev_c, ev_f, Option.map, put_some, put_none, set_eq, setH_eq, get_eq, hp_eq, keep_cons,
              keep_nil, lk_cons, lk_nil, startSt, envOf, reduceIte, Nat.reduceEqDiff, Nat.reduceAdd, Nat.zero_add, Nat.add_zero, Nat.reduceMul, Nat.reduceLT, Nat.reduceLeDiff, bop,
              uop, intop, fltop, convop, true_or, or_true, Bool.false_eq_true, ret_ok, ret_normal, outV, rvV, rvs, ex_some, pureV, pureX, pureX.pure1', pure1, Bool.true_and,
              Bool.false_and, Bool.and_true, Bool.and_false, Option.isNone_none, AV.cells, AV.one, storable, laid, refless, refless1, List.all_cons, List.all_nil, List.length_cons,
              List.length_nil, List.getElem?_cons_zero, List.getElem?_cons_succ, List.set_cons_zero, List.set_cons_succ, List.set_nil, List.map_cons, List.map_nil, vload, loadC,
              storeC, vnil, vfaddr, vextract, callTo, List.mapM_cons, List.mapM_nil, Option.pure_def, Option.bind_eq_bind, Option.bind_some, tabOf_cons, flatT, flatE, flatC,
              and_self, and_true, true_and, implies_true, forall_const, not_true_eq_false, not_false_eq_true, false_implies, List.take_succ_cons, List.drop_succ_cons,
              List.take_zero, List.drop_zero, Bool.not_true, Bool.not_false, beq_self_eq_true, decide_true, decide_false, eq_self, Int.reduceEq, Int.reduceLE, Int.reduceLT,
              Bool.not_not, Bool.true_or, Bool.or_true, Bool.false_or, Bool.or_false, if_true, if_false, List.getElem?_nil, Kl_normal, Kl_exit, Kl_ret, fc45_0, fc45_1, fc45_2,
              fc45_3, fc45_4, fc45_5, fc45_6, fc45_7, fc45_8, fc45_9, fc45_10, fc45_11, fc45_12, fc45_13, fc45_14, fc45_15, fc45_16, fc45_17, fc45_18, fc45_19, fc45_20, fc45_21,
              fc45_22, fc45_23, fc45_24, cast_lit, toNat_lit, Int.reduceAdd, Int.reduceSub, Int.reduceMul, Int.reduceNeg, Int.reducePow, Nat.reducePow, Int.reduceToNat,
              Nat.reduceSub, Nat.mul_one, Int.toNat_zero, prod_eta, List.nil_append, List.cons_append, List.append_nil, vconv, vmm, vidxA, viaddrA, iaddr_sl, iaddr_lsl, getE,
              vfield, vlen, fillC, fillE, List.replicate, elemsOf, List.length_map, f2iK_eq, bits_i64, bits_i32, bits_u64, bits_u32, bits_u8, e_mov, g_mov, e_alloc, g_alloc, e_box,
              g_box, e_build, g_build, e_load, g_load, e_store, g_store, e_bin, g_bin, e_faddr, g_faddr]
    repeat' (first
      | ((first | (refine eGI_of (fun h => ?_) (fun h => ?_)) | (refine eCc_of (fun h => ?_) (fun h => ?_))) <;> (try simp only [Bool.not_eq_true', Bool.not_eq_false'] at h) <;> simp only [h,
        eA_seq, eA_reg, eA_ret, eA_skip, eA_cond, eA_block, eA_exit, eCc_true, eCc_false, Kq_normal, Kq_ret, Kq_exit, Kb_normal, Kb_exit, Kb_ret, Kreg_eq, eI_nil, bindSt_some,
              bindSt_none, bindSt_ite, eR_eq, eGI_tt, eGI_ff, eGI_tf, eGI_ft, eop, vop, ev_t, ev_c, ev_f, Option.map, put_some, put_none, set_eq, setH_eq, get_eq, hp_eq, keep_cons,
              keep_nil, lk_cons, lk_nil, startSt, envOf, reduceIte, Nat.reduceEqDiff, Nat.reduceAdd, Nat.zero_add, Nat.add_zero, Nat.reduceMul, Nat.reduceLT, Nat.reduceLeDiff, bop,
              uop, intop, fltop, convop, true_or, or_true, Bool.false_eq_true, ret_ok, ret_normal, outV, rvV, rvs, ex_some, pureV, pureX, pureX.pure1', pure1, Bool.true_and,
              Bool.false_and, Bool.and_true, Bool.and_false, Option.isNone_none, AV.cells, AV.one, storable, laid, refless, refless1, List.all_cons, List.all_nil, List.length_cons,
              List.length_nil, List.getElem?_cons_zero, List.getElem?_cons_succ, List.set_cons_zero, List.set_cons_succ, List.set_nil, List.map_cons, List.map_nil, vload, loadC,
              storeC, vnil, vfaddr, vextract, callTo, List.mapM_cons, List.mapM_nil, Option.pure_def, Option.bind_eq_bind, Option.bind_some, tabOf_cons, flatT, flatE, flatC,
              and_self, and_true, true_and, implies_true, forall_const, not_true_eq_false, not_false_eq_true, false_implies, List.take_succ_cons, List.drop_succ_cons,
              List.take_zero, List.drop_zero, Bool.not_true, Bool.not_false, beq_self_eq_true, decide_true, decide_false, eq_self, Int.reduceEq, Int.reduceLE, Int.reduceLT,
              Bool.not_not, Bool.true_or, Bool.or_true, Bool.false_or, Bool.or_false, if_true, if_false, List.getElem?_nil, Kl_normal, Kl_exit, Kl_ret, fc45_0, fc45_1, fc45_2,
              fc45_3, fc45_4, fc45_5, fc45_6, fc45_7, fc45_8, fc45_9, fc45_10, fc45_11, fc45_12, fc45_13, fc45_14, fc45_15, fc45_16, fc45_17, fc45_18, fc45_19, fc45_20, fc45_21,
              fc45_22, fc45_23, fc45_24, cast_lit, toNat_lit, Int.reduceAdd, Int.reduceSub, Int.reduceMul, Int.reduceNeg, Int.reducePow, Nat.reducePow, Int.reduceToNat,
              Nat.reduceSub, Nat.mul_one, Int.toNat_zero, prod_eta, List.nil_append, List.cons_append, List.append_nil, vconv, vmm, vidxA, viaddrA, iaddr_sl, iaddr_lsl, getE,
              vfield, vlen, fillC, fillE, List.replicate, elemsOf, List.length_map, f2iK_eq, bits_i64, bits_i32, bits_u64, bits_u32, bits_u8, e_mov, g_mov, e_alloc, g_alloc, e_box,
              g_box, e_build, g_build, e_load, g_load, e_store, g_store, e_bin, g_bin, e_faddr, g_faddr]))
    all_goals (try simp only [*, m_impl_Vector_over, Bool.and_true, Bool.true_and, Bool.and_false, Bool.false_and, Bool.or_true, Bool.true_or, Bool.or_false, Bool.false_or, Bool.not_true, Bool.not_false, Bool.false_eq_true, if_true, if_false, reduceIte, decide_true, decide_false])
    all_goals (try (simp_all; done))
  · cases h
def m_impl_ScaleVector (x0 : (Nat × Nat × Nat)) (x1 : Nat) : (Nat × Nat × Nat) := ((fmul .f32 x0.1 x1), (fmul .f32 x0.2.1 x1), (fmul .f32 x0.2.2 x1))
def g_impl_ScaleVector : List AV → Option AV
  | [.agg [.flt .f32 y0, .flt .f32 y1, .flt .f32 y2], .flt .f32 y3] => some (AV.agg [(.flt .f32 (m_impl_ScaleVector (y0, y1, y2) y3).1),
      (.flt .f32 (m_impl_ScaleVector (y0, y1, y2) y3).2.1), (.flt .f32 (m_impl_ScaleVector (y0, y1, y2) y3).2.2)])
  | _ => none
def ic48 : ICode := (.seq (.reg [⟨(some 2), none, (.box 3 (.t 0))⟩, ⟨(some 4), none, (.alloc (.agg [(.flt .f32 0), (.flt .f32 0), (.flt .f32 0)]))⟩] [1, 2, 4]) (.seq (.reg [⟨(some
      5), none, (.faddr 0 (.t 2))⟩, ⟨(some 6), none, (.load none (.t 5))⟩, ⟨(some 7), none, (.mov (.t 1))⟩, ⟨(some 8), none, (.bin .mul false (.t 6) (.t 7))⟩, ⟨(some 9), none,
      (.faddr 1 (.t 2))⟩, ⟨(some 10), none, (.load none (.t 9))⟩, ⟨(some 11), none, (.mov (.t 1))⟩, ⟨(some 12), none, (.bin .mul false (.t 10) (.t 11))⟩, ⟨(some 13), none, (.faddr 2
      (.t 2))⟩, ⟨(some 14), none, (.load none (.t 13))⟩, ⟨(some 15), none, (.mov (.t 1))⟩, ⟨(some 16), none, (.bin .mul false (.t 14) (.t 15))⟩, ⟨(some 17), none, (.build [(.flt
      .f32 0), (.flt .f32 0), (.flt .f32 0)] [(0, 1, (.t 8)), (1, 1, (.t 12)), (2, 1, (.t 16))])⟩, ⟨none, none, (.store 3 (.t 4) (.t 17))⟩] [4]) .ret))
def cp48 : CP := { n := 18, kp := [[1, 2, 4], [4]] }
theorem fc48_0 : IntKind.wrap .i64 0 = 0 := by decide
theorem fc48_1 : IntKind.wrap .i64 1 = 1 := by decide
theorem fc48_2 : IntKind.wrap .i64 10 = 10 := by decide
theorem fc48_3 : IntKind.wrap .i64 11 = 11 := by decide
theorem fc48_4 : IntKind.wrap .i64 110 = 110 := by decide
theorem fc48_5 : IntKind.wrap .i64 12 = 12 := by decide
theorem fc48_6 : IntKind.wrap .i64 13 = 13 := by decide
theorem fc48_7 : IntKind.wrap .i64 14 = 14 := by decide
theorem fc48_8 : IntKind.wrap .i64 15 = 15 := by decide
theorem fc48_9 : IntKind.wrap .i64 156 = 156 := by decide
theorem fc48_10 : IntKind.wrap .i64 16 = 16 := by decide
theorem fc48_11 : IntKind.wrap .i64 17 = 17 := by decide
theorem fc48_12 : IntKind.wrap .i64 2 = 2 := by decide
theorem fc48_13 : IntKind.wrap .i64 20 = 20 := by decide
theorem fc48_14 : IntKind.wrap .i64 210 = 210 := by decide
theorem fc48_15 : IntKind.wrap .i64 272 = 272 := by decide
theorem fc48_16 : IntKind.wrap .i64 3 = 3 := by decide
theorem fc48_17 : IntKind.wrap .i64 4 = 4 := by decide
theorem fc48_18 : IntKind.wrap .i64 42 = 42 := by decide
theorem fc48_19 : IntKind.wrap .i64 5 = 5 := by decide
theorem fc48_20 : IntKind.wrap .i64 6 = 6 := by decide
theorem fc48_21 : IntKind.wrap .i64 7 = 7 := by decide
theorem fc48_22 : IntKind.wrap .i64 72 = 72 := by decide
theorem fc48_23 : IntKind.wrap .i64 8 = 8 := by decide
theorem fc48_24 : IntKind.wrap .i64 9 = 9 := by decide
theorem s48 : ∀ vs r, g_impl_ScaleVector vs = some r → Says Try.prog 48 vs r := by
  intro vs r h
  unfold g_impl_ScaleVector at h
  split at h
  · rename_i y0 y1 y2 y3
    cases h
    refine spec_of (tab := tabOf []) (cp := cp48) (ic := ic48) (rvl := [(.c 4 (some 3))]) hm tabOk_nil Try.func48 rfl rfl rfl (by kernel_rfl) rfl (Nat.le_of_ble_eq_true rfl) ?_
    show eA _ _ _ _
    unfold ic48
    simp only [
        eA_seq, eA_reg, eA_ret, eA_skip, eA_cond, eA_block, eA_exit, eCc_true, eCc_false, Kq_normal, Kq_ret, Kq_exit, Kb_normal, Kb_exit, Kb_ret, Kreg_eq, eI_nil, bindSt_some,
              bindSt_none, bindSt_ite, eR_eq, eGI_tt, eGI_ff, eGI_tf, eGI_ft, eop, vop, ev_t, ev_c, ev_f, Option.map, put_some, put_none, set_eq, setH_eq, get_eq, hp_eq, keep_cons,
              keep_nil, lk_cons, lk_nil, startSt, envOf, reduceIte, Nat.reduceEqDiff, Nat.reduceAdd, Nat.zero_add, Nat.add_zero, Nat.reduceMul, Nat.reduceLT, Nat.reduceLeDiff, bop,
              uop, intop, fltop, convop, true_or, or_true, Bool.false_eq_true, ret_ok, ret_normal, outV, rvV, rvs, ex_some, pureV, pureX, pureX.pure1', pure1, Bool.true_and,
              Bool.false_and, Bool.and_true, Bool.and_false, Option.isNone_none, AV.cells, AV.one, storable, laid, refless, refless1, List.all_cons, List.all_nil, List.length_cons,
              List.length_nil, List.getElem?_cons_zero, List.getElem?_cons_succ, List.set_cons_zero, List.set_cons_succ, List.set_nil, List.map_cons, List.map_nil, vload, loadC,
              storeC, vnil, vfaddr, vextract, callTo, List.mapM_cons, List.mapM_nil, Option.pure_def, Option.bind_eq_bind, Option.bind_some, tabOf_cons, flatT, flatE, flatC,
              and_self, and_true, true_and, implies_true, forall_const, not_true_eq_false, not_false_eq_true, false_implies, List.take_succ_cons, List.drop_succ_cons,
              List.take_zero, List.drop_zero, Bool.not_true, Bool.not_false, beq_self_eq_true, decide_true, decide_false, eq_self, Int.reduceEq, Int.reduceLE, Int.reduceLT,
              Bool.not_not, Bool.true_or, Bool.or_true, Bool.false_or, Bool.or_false, if_true, if_false, List.getElem?_nil, Kl_normal, Kl_exit, Kl_ret, fc48_0, fc48_1, fc48_2,
              fc48_3, fc48_4, fc48_5, fc48_6, fc48_7, fc48_8, fc48_9, fc48_10, fc48_11, fc48_12, fc48_13, fc48_14, fc48_15, fc48_16, fc48_17, fc48_18, fc48_19, fc48_20, fc48_21,
              fc48_22, fc48_23, fc48_24, cast_lit, toNat_lit, Int.reduceAdd, Int.reduceSub, Int.reduceMul, Int.reduceNeg, Int.reducePow, Nat.reducePow, Int.reduceToNat,
              Nat.reduceSub, Nat.mul_one, Int.toNat_zero, prod_eta, List.nil_append, List.cons_append, List.append_nil, vconv, vmm, vidxA, viaddrA, iaddr_sl, iaddr_lsl, getE,
              vfield, vlen, fillC, fillE, List.replicate, elemsOf, List.length_map, f2iK_eq, bits_i64, bits_i32, bits_u64, bits_u32, bits_u8, e_mov, g_mov, e_alloc, g_alloc, e_box,
              g_box, e_build, g_build, e_load, g_load, e_store, g_store, e_bin, g_bin, e_faddr, g_faddr]
    repeat' (first
      | ((first | (refine eGI_of (fun h => ?_) (fun h => ?_)) | (refine eCc_of (fun h => ?_) (fun h => ?_))) <;> (try simp only [Bool.not_eq_true', Bool.not_eq_false'] at h) <;> simp only [h,
        eA_seq, eA_reg, eA_ret, eA_skip, eA_cond, eA_block, eA_exit, eCc_true, eCc_false, Kq_normal, Kq_ret, Kq_exit, Kb_normal, Kb_exit, Kb_ret, Kreg_eq, eI_nil, bindSt_some,
              bindSt_none, bindSt_ite, eR_eq, eGI_tt, eGI_ff, eGI_tf, eGI_ft, eop, vop, ev_t, ev_c, ev_f, Option.map, put_some, put_none, set_eq, setH_eq, get_eq, hp_eq, keep_cons,
              keep_nil, lk_cons, lk_nil, startSt, envOf, reduceIte, Nat.reduceEqDiff, Nat.reduceAdd, Nat.zero_add, Nat.add_zero, Nat.reduceMul, Nat.reduceLT, Nat.reduceLeDiff, bop,
              uop, intop, fltop, convop, true_or, or_true, Bool.false_eq_true, ret_ok, ret_normal, outV, rvV, rvs, ex_some, pureV, pureX, pureX.pure1', pure1, Bool.true_and,
              Bool.false_and, Bool.and_true, Bool.and_false, Option.isNone_none, AV.cells, AV.one, storable, laid, refless, refless1, List.all_cons, List.all_nil, List.length_cons,
              List.length_nil, List.getElem?_cons_zero, List.getElem?_cons_succ, List.set_cons_zero, List.set_cons_succ, List.set_nil, List.map_cons, List.map_nil, vload, loadC,
              storeC, vnil, vfaddr, vextract, callTo, List.mapM_cons, List.mapM_nil, Option.pure_def, Option.bind_eq_bind, Option.bind_some, tabOf_cons, flatT, flatE, flatC,
              and_self, and_true, true_and, implies_true, forall_const, not_true_eq_false, not_false_eq_true, false_implies, List.take_succ_cons, List.drop_succ_cons,
              List.take_zero, List.drop_zero, Bool.not_true, Bool.not_false, beq_self_eq_true, decide_true, decide_false, eq_self, Int.reduceEq, Int.reduceLE, Int.reduceLT,
              Bool.not_not, Bool.true_or, Bool.or_true, Bool.false_or, Bool.or_false, if_true, if_false, List.getElem?_nil, Kl_normal, Kl_exit, Kl_ret, fc48_0, fc48_1, fc48_2,
              fc48_3, fc48_4, fc48_5, fc48_6, fc48_7, fc48_8, fc48_9, fc48_10, fc48_11, fc48_12, fc48_13, fc48_14, fc48_15, fc48_16, fc48_17, fc48_18, fc48_19, fc48_20, fc48_21,
              fc48_22, fc48_23, fc48_24, cast_lit, toNat_lit, Int.reduceAdd, Int.reduceSub, Int.reduceMul, Int.reduceNeg, Int.reducePow, Nat.reducePow, Int.reduceToNat,
              Nat.reduceSub, Nat.mul_one, Int.toNat_zero, prod_eta, List.nil_append, List.cons_append, List.append_nil, vconv, vmm, vidxA, viaddrA, iaddr_sl, iaddr_lsl, getE,
              vfield, vlen, fillC, fillE, List.replicate, elemsOf, List.length_map, f2iK_eq, bits_i64, bits_i32, bits_u64, bits_u32, bits_u8, e_mov, g_mov, e_alloc, g_alloc, e_box,
              g_box, e_build, g_build, e_load, g_load, e_store, g_store, e_bin, g_bin, e_faddr, g_faddr]))
    all_goals (try simp only [*, m_impl_ScaleVector, Bool.and_true, Bool.true_and, Bool.and_false, Bool.false_and, Bool.or_true, Bool.true_or, Bool.or_false, Bool.false_or, Bool.not_true, Bool.not_false, Bool.false_eq_true, if_true, if_false, reduceIte, decide_true, decide_false])
    all_goals (try (simp_all; done))
  · cases h
def m_impl_turnOf (x0 : Nat) (x1 : (Nat × Nat × Nat)) : (Nat × Nat × Nat × Nat) := (x0, x1.1, x1.2.1, x1.2.2)
def g_impl_turnOf : List AV → Option AV
  | [.flt .f32 y0, .agg [.flt .f32 y1, .flt .f32 y2, .flt .f32 y3]] => some (AV.agg [(.flt .f32 (m_impl_turnOf y0 (y1, y2, y3)).1), (.flt
      .f32 (m_impl_turnOf y0 (y1, y2, y3)).2.1), (.flt .f32 (m_impl_turnOf y0 (y1, y2, y3)).2.2.1), (.flt .f32 (m_impl_turnOf y0 (y1, y2, y3)).2.2.2)])
  | _ => none
def ic65 : ICode := (.seq (.reg [⟨(some 3), none, (.box 3 (.t 1))⟩, ⟨(some 4), none, (.alloc (.agg [(.flt .f32 0), (.flt .f32 0), (.flt .f32 0), (.flt .f32 0)]))⟩] [0, 3, 4]) (.seq
      (.reg [⟨(some 5), none, (.mov (.t 0))⟩, ⟨(some 6), none, (.faddr 0 (.t 3))⟩, ⟨(some 7), none, (.load none (.t 6))⟩, ⟨(some 8), none, (.faddr 1 (.t 3))⟩, ⟨(some 9), none,
      (.load none (.t 8))⟩, ⟨(some 10), none, (.faddr 2 (.t 3))⟩, ⟨(some 11), none, (.load none (.t 10))⟩, ⟨(some 12), none, (.build [(.flt .f32 0), (.flt .f32 0), (.flt .f32 0),
      (.flt .f32 0)] [(0, 1, (.t 5)), (1, 1, (.t 7)), (2, 1, (.t 9)), (3, 1, (.t 11))])⟩, ⟨none, none, (.store 4 (.t 4) (.t 12))⟩] [4]) .ret))
def cp65 : CP := { n := 13, kp := [[0, 3, 4], [4]] }
theorem fc65_0 : IntKind.wrap .i64 0 = 0 := by decide
theorem fc65_1 : IntKind.wrap .i64 1 = 1 := by decide
theorem fc65_2 : IntKind.wrap .i64 10 = 10 := by decide
theorem fc65_3 : IntKind.wrap .i64 11 = 11 := by decide
theorem fc65_4 : IntKind.wrap .i64 110 = 110 := by decide
theorem fc65_5 : IntKind.wrap .i64 12 = 12 := by decide
theorem fc65_6 : IntKind.wrap .i64 13 = 13 := by decide
theorem fc65_7 : IntKind.wrap .i64 14 = 14 := by decide
theorem fc65_8 : IntKind.wrap .i64 15 = 15 := by decide
theorem fc65_9 : IntKind.wrap .i64 156 = 156 := by decide
theorem fc65_10 : IntKind.wrap .i64 16 = 16 := by decide
theorem fc65_11 : IntKind.wrap .i64 17 = 17 := by decide
theorem fc65_12 : IntKind.wrap .i64 2 = 2 := by decide
theorem fc65_13 : IntKind.wrap .i64 20 = 20 := by decide
theorem fc65_14 : IntKind.wrap .i64 210 = 210 := by decide
theorem fc65_15 : IntKind.wrap .i64 272 = 272 := by decide
theorem fc65_16 : IntKind.wrap .i64 3 = 3 := by decide
theorem fc65_17 : IntKind.wrap .i64 4 = 4 := by decide
theorem fc65_18 : IntKind.wrap .i64 42 = 42 := by decide
theorem fc65_19 : IntKind.wrap .i64 5 = 5 := by decide
theorem fc65_20 : IntKind.wrap .i64 6 = 6 := by decide
theorem fc65_21 : IntKind.wrap .i64 7 = 7 := by decide
theorem fc65_22 : IntKind.wrap .i64 72 = 72 := by decide
theorem fc65_23 : IntKind.wrap .i64 8 = 8 := by decide
theorem fc65_24 : IntKind.wrap .i64 9 = 9 := by decide
theorem s65 : ∀ vs r, g_impl_turnOf vs = some r → Says Try.prog 65 vs r := by
  intro vs r h
  unfold g_impl_turnOf at h
  split at h
  · rename_i y0 y1 y2 y3
    cases h
    refine spec_of (tab := tabOf []) (cp := cp65) (ic := ic65) (rvl := [(.c 4 (some 4))]) hm tabOk_nil Try.func65 rfl rfl rfl (by kernel_rfl) rfl (Nat.le_of_ble_eq_true rfl) ?_
    show eA _ _ _ _
    unfold ic65
    simp only [
        eA_seq, eA_reg, eA_ret, eA_skip, eA_cond, eA_block, eA_exit, eCc_true, eCc_false, Kq_normal, Kq_ret, Kq_exit, Kb_normal, Kb_exit, Kb_ret, Kreg_eq, eI_nil, bindSt_some,
              bindSt_none, bindSt_ite, eR_eq, eGI_tt, eGI_ff, eGI_tf, eGI_ft, eop, vop, ev_t, ev_c, ev_f, Option.map, put_some, put_none, set_eq, setH_eq, get_eq, hp_eq, keep_cons,
              keep_nil, lk_cons, lk_nil, startSt, envOf, reduceIte, Nat.reduceEqDiff, Nat.reduceAdd, Nat.zero_add, Nat.add_zero, Nat.reduceMul, Nat.reduceLT, Nat.reduceLeDiff, bop,
              uop, intop, fltop, convop, true_or, or_true, Bool.false_eq_true, ret_ok, ret_normal, outV, rvV, rvs, ex_some, pureV, pureX, pureX.pure1', pure1, Bool.true_and,
              Bool.false_and, Bool.and_true, Bool.and_false, Option.isNone_none, AV.cells, AV.one, storable, laid, refless, refless1, List.all_cons, List.all_nil, List.length_cons,
              List.length_nil, List.getElem?_cons_zero, List.getElem?_cons_succ, List.set_cons_zero, List.set_cons_succ, List.set_nil, List.map_cons, List.map_nil, vload, loadC,
              storeC, vnil, vfaddr, vextract, callTo, List.mapM_cons, List.mapM_nil, Option.pure_def, Option.bind_eq_bind, Option.bind_some, tabOf_cons, flatT, flatE, flatC,
              and_self, and_true, true_and, implies_true, forall_const, not_true_eq_false, not_false_eq_true, false_implies, List.take_succ_cons, List.drop_succ_cons,
              List.take_zero, List.drop_zero, Bool.not_true, Bool.not_false, beq_self_eq_true, decide_true, decide_false, eq_self, Int.reduceEq, Int.reduceLE, Int.reduceLT,
              Bool.not_not, Bool.true_or, Bool.or_true, Bool.false_or, Bool.or_false, if_true, if_false, List.getElem?_nil, Kl_normal, Kl_exit, Kl_ret, fc65_0, fc65_1, fc65_2,
              fc65_3, fc65_4, fc65_5, fc65_6, fc65_7, fc65_8, fc65_9, fc65_10, fc65_11, fc65_12, fc65_13, fc65_14, fc65_15, fc65_16, fc65_17, fc65_18, fc65_19, fc65_20, fc65_21,
              fc65_22, fc65_23, fc65_24, cast_lit, toNat_lit, Int.reduceAdd, Int.reduceSub, Int.reduceMul, Int.reduceNeg, Int.reducePow, Nat.reducePow, Int.reduceToNat,
              Nat.reduceSub, Nat.mul_one, Int.toNat_zero, prod_eta, List.nil_append, List.cons_append, List.append_nil, vconv, vmm, vidxA, viaddrA, iaddr_sl, iaddr_lsl, getE,
              vfield, vlen, fillC, fillE, List.replicate, elemsOf, List.length_map, f2iK_eq, bits_i64, bits_i32, bits_u64, bits_u32, bits_u8, e_mov, g_mov, e_alloc, g_alloc, e_box,
              g_box, e_build, g_build, e_load, g_load, e_store, g_store, e_faddr, g_faddr]
    repeat' (first
      | ((first | (refine eGI_of (fun h => ?_) (fun h => ?_)) | (refine eCc_of (fun h => ?_) (fun h => ?_))) <;> (try simp only [Bool.not_eq_true', Bool.not_eq_false'] at h) <;> simp only [h,
        eA_seq, eA_reg, eA_ret, eA_skip, eA_cond, eA_block, eA_exit, eCc_true, eCc_false, Kq_normal, Kq_ret, Kq_exit, Kb_normal, Kb_exit, Kb_ret, Kreg_eq, eI_nil, bindSt_some,
              bindSt_none, bindSt_ite, eR_eq, eGI_tt, eGI_ff, eGI_tf, eGI_ft, eop, vop, ev_t, ev_c, ev_f, Option.map, put_some, put_none, set_eq, setH_eq, get_eq, hp_eq, keep_cons,
              keep_nil, lk_cons, lk_nil, startSt, envOf, reduceIte, Nat.reduceEqDiff, Nat.reduceAdd, Nat.zero_add, Nat.add_zero, Nat.reduceMul, Nat.reduceLT, Nat.reduceLeDiff, bop,
              uop, intop, fltop, convop, true_or, or_true, Bool.false_eq_true, ret_ok, ret_normal, outV, rvV, rvs, ex_some, pureV, pureX, pureX.pure1', pure1, Bool.true_and,
              Bool.false_and, Bool.and_true, Bool.and_false, Option.isNone_none, AV.cells, AV.one, storable, laid, refless, refless1, List.all_cons, List.all_nil, List.length_cons,
              List.length_nil, List.getElem?_cons_zero, List.getElem?_cons_succ, List.set_cons_zero, List.set_cons_succ, List.set_nil, List.map_cons, List.map_nil, vload, loadC,
              storeC, vnil, vfaddr, vextract, callTo, List.mapM_cons, List.mapM_nil, Option.pure_def, Option.bind_eq_bind, Option.bind_some, tabOf_cons, flatT, flatE, flatC,
              and_self, and_true, true_and, implies_true, forall_const, not_true_eq_false, not_false_eq_true, false_implies, List.take_succ_cons, List.drop_succ_cons,
              List.take_zero, List.drop_zero, Bool.not_true, Bool.not_false, beq_self_eq_true, decide_true, decide_false, eq_self, Int.reduceEq, Int.reduceLE, Int.reduceLT,
              Bool.not_not, Bool.true_or, Bool.or_true, Bool.false_or, Bool.or_false, if_true, if_false, List.getElem?_nil, Kl_normal, Kl_exit, Kl_ret, fc65_0, fc65_1, fc65_2,
              fc65_3, fc65_4, fc65_5, fc65_6, fc65_7, fc65_8, fc65_9, fc65_10, fc65_11, fc65_12, fc65_13, fc65_14, fc65_15, fc65_16, fc65_17, fc65_18, fc65_19, fc65_20, fc65_21,
              fc65_22, fc65_23, fc65_24, cast_lit, toNat_lit, Int.reduceAdd, Int.reduceSub, Int.reduceMul, Int.reduceNeg, Int.reducePow, Nat.reducePow, Int.reduceToNat,
              Nat.reduceSub, Nat.mul_one, Int.toNat_zero, prod_eta, List.nil_append, List.cons_append, List.append_nil, vconv, vmm, vidxA, viaddrA, iaddr_sl, iaddr_lsl, getE,
              vfield, vlen, fillC, fillE, List.replicate, elemsOf, List.length_map, f2iK_eq, bits_i64, bits_i32, bits_u64, bits_u32, bits_u8, e_mov, g_mov, e_alloc, g_alloc, e_box,
              g_box, e_build, g_build, e_load, g_load, e_store, g_store, e_faddr, g_faddr]))
    all_goals (try simp only [*, m_impl_turnOf, Bool.and_true, Bool.true_and, Bool.and_false, Bool.false_and, Bool.or_true, Bool.true_or, Bool.or_false, Bool.false_or, Bool.not_true, Bool.not_false, Bool.false_eq_true, if_true, if_false, reduceIte, decide_true, decide_false])
    all_goals (try (simp_all; done))
  · cases h
def m_impl_TurnAbout (x0 : (Nat × Nat × Nat)) (x1 : Nat) : (Nat × Nat × Nat × Nat) := (if (m_impl_isLength (m_impl_LongOf x0)) = true then (m_impl_turnOf (narrow (m_impl_wideSine
      (fadd .f64 (fdiv .f64 (widen x1) 4611686018427387904) 4598175219545276416))) (m_impl_ScaleVector (m_impl_Vector_over x0 (m_impl_LongOf x0)) (narrow (m_impl_wideSine (fdiv .f64
      (widen x1) 4611686018427387904))))) else (m_impl_NoTurn))
def p_impl_TurnAbout (x0 : (Nat × Nat × Nat)) (x1 : Nat) : Bool := ((p_impl_LongOf x0) && (!(m_impl_isLength (m_impl_LongOf x0)) || ((narrowOk (m_impl_wideSine (fdiv .f64 (widen x1)
      4611686018427387904))) && (narrowOk (m_impl_wideSine (fadd .f64 (fdiv .f64 (widen x1) 4611686018427387904) 4598175219545276416))))))
def g_impl_TurnAbout : List AV → Option AV
  | [.agg [.flt .f32 y0, .flt .f32 y1, .flt .f32 y2], .flt .f32 y3] => if p_impl_TurnAbout (y0, y1, y2) y3 = true then some (AV.agg [(.flt
      .f32 (m_impl_TurnAbout (y0, y1, y2) y3).1), (.flt .f32 (m_impl_TurnAbout (y0, y1, y2) y3).2.1), (.flt .f32 (m_impl_TurnAbout (y0, y1, y2) y3).2.2.1), (.flt .f32
      (m_impl_TurnAbout (y0, y1, y2) y3).2.2.2)]) else none
  | _ => none
def ic27 : ICode := (.seq (.reg [⟨(some 2), none, (.box 3 (.t 0))⟩, ⟨(some 4), none, (.alloc (.agg [(.flt .f32 0), (.flt .f32 0), (.flt .f32 0), (.flt .f32 0)]))⟩] [1, 2, 4]) (.seq
      (.reg [⟨(some 9), none, (.load (some 3) (.t 2))⟩, ⟨(some 10), none, (.call (.fn 42) [(.t 9)] [])⟩, ⟨(some 5), none, (.mov (.t 10))⟩] [1, 2, 4, 5]) (.seq (.seq (.reg [⟨(some
      11), none, (.mov (.t 5))⟩, ⟨(some 12), none, (.call (.fn 44) [(.t 11)] [])⟩, ⟨(some 13), none, (.un .not (.t 12))⟩] [1, 2, 4, 5, 13]) (.cond (.t 13) (.seq (.reg [⟨(some 14),
      none, (.call (.fn 64) [] [])⟩, ⟨none, none, (.store 4 (.t 4) (.t 14))⟩] [4]) .ret) .skip)) (.seq (.reg [⟨(some 15), none, (.mov (.t 1))⟩, ⟨(some 16), none, (.conv (.flt .f64)
      (.t 15))⟩, ⟨(some 17), none, (.bin .quo false (.t 16) (.c (.flt .f64 4611686018427387904)))⟩, ⟨(some 6), none, (.mov (.t 17))⟩] [2, 4, 5, 6]) (.seq (.reg [⟨(some 18), none,
      (.mov (.t 6))⟩, ⟨(some 19), none, (.call (.fn 54) [(.t 18)] [])⟩, ⟨(some 20), none, (.conv (.flt .f32) (.t 19))⟩, ⟨(some 21), none, (.mov (.t 6))⟩, ⟨(some 22), none, (.bin
      .add false (.t 21) (.c (.flt .f64 4598175219545276416)))⟩, ⟨(some 23), none, (.call (.fn 54) [(.t 22)] [])⟩, ⟨(some 24), none, (.conv (.flt .f32) (.t 23))⟩, ⟨(some 7), none,
      (.mov (.t 20))⟩, ⟨(some 8), none, (.mov (.t 24))⟩] [2, 4, 5, 7, 8]) (.seq (.reg [⟨(some 25), none, (.mov (.t 8))⟩, ⟨(some 26), none, (.load (some 3) (.t 2))⟩, ⟨(some 27),
      none, (.mov (.t 5))⟩, ⟨(some 28), none, (.call (.fn 45) [(.t 26), (.t 27)] [])⟩, ⟨(some 29), none, (.mov (.t 7))⟩, ⟨(some 30), none, (.call (.fn 48) [(.t 28), (.t 29)] [])⟩,
      ⟨(some 31), none, (.call (.fn 65) [(.t 25), (.t 30)] [])⟩, ⟨none, none, (.store 4 (.t 4) (.t 31))⟩] [4]) .ret))))))
def cp27 : CP := { n := 32, kp := [[1, 2, 4], [1, 2, 4, 5], [1, 2, 4, 5, 13], [4], [2, 4, 5, 6], [2, 4, 5, 7, 8], [4]] }
theorem fc27_0 : IntKind.wrap .i64 0 = 0 := by decide
theorem fc27_1 : IntKind.wrap .i64 1 = 1 := by decide
theorem fc27_2 : IntKind.wrap .i64 10 = 10 := by decide
theorem fc27_3 : IntKind.wrap .i64 11 = 11 := by decide
theorem fc27_4 : IntKind.wrap .i64 110 = 110 := by decide
theorem fc27_5 : IntKind.wrap .i64 12 = 12 := by decide
theorem fc27_6 : IntKind.wrap .i64 13 = 13 := by decide
theorem fc27_7 : IntKind.wrap .i64 14 = 14 := by decide
theorem fc27_8 : IntKind.wrap .i64 15 = 15 := by decide
theorem fc27_9 : IntKind.wrap .i64 156 = 156 := by decide
theorem fc27_10 : IntKind.wrap .i64 16 = 16 := by decide
theorem fc27_11 : IntKind.wrap .i64 17 = 17 := by decide
theorem fc27_12 : IntKind.wrap .i64 2 = 2 := by decide
theorem fc27_13 : IntKind.wrap .i64 20 = 20 := by decide
theorem fc27_14 : IntKind.wrap .i64 210 = 210 := by decide
theorem fc27_15 : IntKind.wrap .i64 272 = 272 := by decide
theorem fc27_16 : IntKind.wrap .i64 3 = 3 := by decide
theorem fc27_17 : IntKind.wrap .i64 4 = 4 := by decide
theorem fc27_18 : IntKind.wrap .i64 42 = 42 := by decide
theorem fc27_19 : IntKind.wrap .i64 5 = 5 := by decide
theorem fc27_20 : IntKind.wrap .i64 6 = 6 := by decide
theorem fc27_21 : IntKind.wrap .i64 7 = 7 := by decide
theorem fc27_22 : IntKind.wrap .i64 72 = 72 := by decide
theorem fc27_23 : IntKind.wrap .i64 8 = 8 := by decide
theorem fc27_24 : IntKind.wrap .i64 9 = 9 := by decide
theorem s27 : ∀ vs r, g_impl_TurnAbout vs = some r → Says Try.prog 27 vs r := by
  intro vs r h
  unfold g_impl_TurnAbout at h
  split at h
  · rename_i y0 y1 y2 y3
    split at h
    · rename_i hp
      cases h
      refine spec_of (tab := tabOf [(42, g_impl_LongOf), (44, g_impl_isLength), (45, g_impl_Vector_over), (48, g_impl_ScaleVector), (54, g_impl_wideSine), (64, g_impl_NoTurn), (65, g_impl_turnOf)]) (cp := cp27) (ic := ic27) (rvl := [(.c 4 (some 4))]) hm (tabOk_cons s42 (tabOk_cons s44 (tabOk_cons s45 (tabOk_cons s48 (tabOk_cons s54 (tabOk_cons s64 (tabOk_cons s65 tabOk_nil))))))) Try.func27 rfl rfl rfl (by kernel_rfl) rfl (Nat.le_of_ble_eq_true rfl) ?_
      show eA _ _ _ _
      unfold ic27
      simp only [p_impl_TurnAbout, Bool.and_eq_true, Bool.or_eq_true, decide_eq_true_eq, Bool.not_eq_true', decide_eq_false_iff_not] at hp
      simp only [
          hp, eA_seq, eA_reg, eA_ret, eA_skip, eA_cond, eA_block, eA_exit, eCc_true, eCc_false, Kq_normal, Kq_ret, Kq_exit, Kb_normal, Kb_exit, Kb_ret, Kreg_eq, eI_nil, bindSt_some,
                bindSt_none, bindSt_ite, eR_eq, eGI_tt, eGI_ff, eGI_tf, eGI_ft, eop, vop, ev_t, ev_c, ev_f, Option.map, put_some, put_none, set_eq, setH_eq, get_eq, hp_eq,
                keep_cons, keep_nil, lk_cons, lk_nil, startSt, envOf, reduceIte, Nat.reduceEqDiff, Nat.reduceAdd, Nat.zero_add, Nat.add_zero, Nat.reduceMul, Nat.reduceLT,
                Nat.reduceLeDiff, bop, uop, intop, fltop, convop, true_or, or_true, Bool.false_eq_true, ret_ok, ret_normal, outV, rvV, rvs, ex_some, pureV, pureX, pureX.pure1',
                pure1, Bool.true_and, Bool.false_and, Bool.and_true, Bool.and_false, Option.isNone_none, AV.cells, AV.one, storable, laid, refless, refless1, List.all_cons,
                List.all_nil, List.length_cons, List.length_nil, List.getElem?_cons_zero, List.getElem?_cons_succ, List.set_cons_zero, List.set_cons_succ, List.set_nil,
                List.map_cons, List.map_nil, vload, loadC, storeC, vnil, vfaddr, vextract, callTo, List.mapM_cons, List.mapM_nil, Option.pure_def, Option.bind_eq_bind,
                Option.bind_some, tabOf_cons, flatT, flatE, flatC, and_self, and_true, true_and, implies_true, forall_const, not_true_eq_false, not_false_eq_true, false_implies,
                List.take_succ_cons, List.drop_succ_cons, List.take_zero, List.drop_zero, Bool.not_true, Bool.not_false, beq_self_eq_true, decide_true, decide_false, eq_self,
                Int.reduceEq, Int.reduceLE, Int.reduceLT, Bool.not_not, Bool.true_or, Bool.or_true, Bool.false_or, Bool.or_false, if_true, if_false, List.getElem?_nil, Kl_normal,
                Kl_exit, Kl_ret, fc27_0, fc27_1, fc27_2, fc27_3, fc27_4, fc27_5, fc27_6, fc27_7, fc27_8, fc27_9, fc27_10, fc27_11, fc27_12, fc27_13, fc27_14, fc27_15, fc27_16,
                fc27_17, fc27_18, fc27_19, fc27_20, fc27_21, fc27_22, fc27_23, fc27_24, cast_lit, toNat_lit, Int.reduceAdd, Int.reduceSub, Int.reduceMul, Int.reduceNeg,
                Int.reducePow, Nat.reducePow, Int.reduceToNat, Nat.reduceSub, Nat.mul_one, Int.toNat_zero, prod_eta, List.nil_append, List.cons_append, List.append_nil, vconv, vmm,
                vidxA, viaddrA, iaddr_sl, iaddr_lsl, getE, vfield, vlen, fillC, fillE, List.replicate, elemsOf, List.length_map, f2iK_eq, bits_i64, bits_i32, bits_u64, bits_u32,
                bits_u8, e_mov, g_mov, e_alloc, g_alloc, e_box, g_box, e_load, g_load, e_store, g_store, e_bin, g_bin, e_un, g_un, e_conv, g_conv, e_call, g_call, g_impl_LongOf,
                g_impl_isLength, g_impl_Vector_over, g_impl_ScaleVector, g_impl_wideSine, g_impl_NoTurn, g_impl_turnOf]
      repeat' (first
        | ((first | (refine eGI_of (fun h => ?_) (fun h => ?_)) | (refine eCc_of (fun h => ?_) (fun h => ?_))) <;> (try simp only [Bool.not_eq_true', Bool.not_eq_false'] at h) <;> (try simp only [h, reduceCtorEq, Bool.not_eq_true', decide_eq_false_iff_not, Bool.not_true, Bool.not_false, Bool.false_or, Bool.true_or, Bool.true_and, Bool.false_and, Bool.and_eq_true, Bool.or_eq_true, if_true, if_false, reduceIte, Bool.false_eq_true, and_true, true_and, false_or, or_false, decide_eq_true_eq, not_false_eq_true, not_true_eq_false] at hp) <;> (try (have h2 := h; simp only [decide_eq_true_eq, decide_eq_false_iff_not] at h2; simp only [h2, if_true, if_false, false_or, true_or, or_true, or_false, and_true, true_and, not_false_eq_true, not_true_eq_false] at hp)) <;> simp only [h,
          hp, eA_seq, eA_reg, eA_ret, eA_skip, eA_cond, eA_block, eA_exit, eCc_true, eCc_false, Kq_normal, Kq_ret, Kq_exit, Kb_normal, Kb_exit, Kb_ret, Kreg_eq, eI_nil, bindSt_some,
                bindSt_none, bindSt_ite, eR_eq, eGI_tt, eGI_ff, eGI_tf, eGI_ft, eop, vop, ev_t, ev_c, ev_f, Option.map, put_some, put_none, set_eq, setH_eq, get_eq, hp_eq,
                keep_cons, keep_nil, lk_cons, lk_nil, startSt, envOf, reduceIte, Nat.reduceEqDiff, Nat.reduceAdd, Nat.zero_add, Nat.add_zero, Nat.reduceMul, Nat.reduceLT,
                Nat.reduceLeDiff, bop, uop, intop, fltop, convop, true_or, or_true, Bool.false_eq_true, ret_ok, ret_normal, outV, rvV, rvs, ex_some, pureV, pureX, pureX.pure1',
                pure1, Bool.true_and, Bool.false_and, Bool.and_true, Bool.and_false, Option.isNone_none, AV.cells, AV.one, storable, laid, refless, refless1, List.all_cons,
                List.all_nil, List.length_cons, List.length_nil, List.getElem?_cons_zero, List.getElem?_cons_succ, List.set_cons_zero, List.set_cons_succ, List.set_nil,
                List.map_cons, List.map_nil, vload, loadC, storeC, vnil, vfaddr, vextract, callTo, List.mapM_cons, List.mapM_nil, Option.pure_def, Option.bind_eq_bind,
                Option.bind_some, tabOf_cons, flatT, flatE, flatC, and_self, and_true, true_and, implies_true, forall_const, not_true_eq_false, not_false_eq_true, false_implies,
                List.take_succ_cons, List.drop_succ_cons, List.take_zero, List.drop_zero, Bool.not_true, Bool.not_false, beq_self_eq_true, decide_true, decide_false, eq_self,
                Int.reduceEq, Int.reduceLE, Int.reduceLT, Bool.not_not, Bool.true_or, Bool.or_true, Bool.false_or, Bool.or_false, if_true, if_false, List.getElem?_nil, Kl_normal,
                Kl_exit, Kl_ret, fc27_0, fc27_1, fc27_2, fc27_3, fc27_4, fc27_5, fc27_6, fc27_7, fc27_8, fc27_9, fc27_10, fc27_11, fc27_12, fc27_13, fc27_14, fc27_15, fc27_16,
                fc27_17, fc27_18, fc27_19, fc27_20, fc27_21, fc27_22, fc27_23, fc27_24, cast_lit, toNat_lit, Int.reduceAdd, Int.reduceSub, Int.reduceMul, Int.reduceNeg,
                Int.reducePow, Nat.reducePow, Int.reduceToNat, Nat.reduceSub, Nat.mul_one, Int.toNat_zero, prod_eta, List.nil_append, List.cons_append, List.append_nil, vconv, vmm,
                vidxA, viaddrA, iaddr_sl, iaddr_lsl, getE, vfield, vlen, fillC, fillE, List.replicate, elemsOf, List.length_map, f2iK_eq, bits_i64, bits_i32, bits_u64, bits_u32,
                bits_u8, e_mov, g_mov, e_alloc, g_alloc, e_box, g_box, e_load, g_load, e_store, g_store, e_bin, g_bin, e_un, g_un, e_conv, g_conv, e_call, g_call, g_impl_LongOf,
                g_impl_isLength, g_impl_Vector_over, g_impl_ScaleVector, g_impl_wideSine, g_impl_NoTurn, g_impl_turnOf]))
      all_goals (try simp only [*, m_impl_TurnAbout, Bool.and_true, Bool.true_and, Bool.and_false, Bool.false_and, Bool.or_true, Bool.true_or, Bool.or_false, Bool.false_or, Bool.not_true, Bool.not_false, Bool.false_eq_true, if_true, if_false, reduceIte, decide_true, decide_false])
      all_goals (try (simp_all; done))
    · cases h
  · cases h
def m_laws_sameFloat (x0 : Nat) (x1 : Nat) : Bool := (if (feq .f64 x0 x0) = true then (if (feq .f64 x1 x1) = true then (if (feq .f64 x0 0) = true then (if (feq .f64 x1 0) = true
      then ((flt .f64 0 (fdiv .f64 4607182418800017408 x0)) == (flt .f64 0 (fdiv .f64 4607182418800017408 x1))) else (feq .f64 x0 x1)) else (feq .f64 x0 x1)) else false) else (!(feq
      .f64 x1 x1)))
def g_laws_sameFloat : List AV → Option AV
  | [.flt .f64 y0, .flt .f64 y1] => some (.bool (m_laws_sameFloat y0 y1))
  | _ => none
def ic24 : ICode := (.seq (.reg [⟨(some 4), none, (.mov (.c (.bool false)))⟩] [0, 1]) (.seq (.seq (.reg [⟨(some 5), none, (.mov (.t 0))⟩, ⟨(some 6), none, (.mov (.t 0))⟩, ⟨(some 7),
      none, (.bin .neq false (.t 5) (.t 6))⟩, ⟨(some 8), none, (.mov (.t 7))⟩, ⟨(some 9), (some (8, false)), (.mov (.t 1))⟩, ⟨(some 10), (some (8, false)), (.mov (.t 1))⟩, ⟨(some
      11), (some (8, false)), (.bin .neq false (.t 9) (.t 10))⟩, ⟨(some 12), none, (.pick (.t 8) (.c (.bool true)) (.t 11))⟩] [0, 1, 12]) (.cond (.t 12) (.seq (.reg [⟨(some 13),
      none, (.mov (.t 0))⟩, ⟨(some 14), none, (.mov (.t 0))⟩, ⟨(some 15), none, (.bin .neq false (.t 13) (.t 14))⟩, ⟨(some 16), none, (.mov (.t 15))⟩, ⟨(some 17), (some (16, true)),
      (.mov (.t 1))⟩, ⟨(some 18), (some (16, true)), (.mov (.t 1))⟩, ⟨(some 19), (some (16, true)), (.bin .neq false (.t 17) (.t 18))⟩, ⟨(some 20), none, (.pick (.t 16) (.t 19) (.c
      (.bool false)))⟩, ⟨(some 4), none, (.mov (.t 20))⟩] [4]) .ret) .skip)) (.seq (.seq (.reg [⟨(some 21), none, (.mov (.t 0))⟩, ⟨(some 22), none, (.bin .eql false (.t 21) (.c
      (.flt .f64 0)))⟩, ⟨(some 23), none, (.mov (.t 22))⟩, ⟨(some 24), (some (23, true)), (.mov (.t 1))⟩, ⟨(some 25), (some (23, true)), (.bin .eql false (.t 24) (.c (.flt .f64
      0)))⟩, ⟨(some 26), none, (.pick (.t 23) (.t 25) (.c (.bool false)))⟩] [0, 1, 26]) (.cond (.t 26) (.seq (.reg [⟨(some 27), none, (.mov (.t 0))⟩, ⟨(some 28), none, (.bin .quo
      false (.c (.flt .f64 4607182418800017408)) (.t 27))⟩, ⟨(some 29), none, (.bin .gtr false (.t 28) (.c (.flt .f64 0)))⟩, ⟨(some 30), none, (.mov (.t 1))⟩, ⟨(some 31), none,
      (.bin .quo false (.c (.flt .f64 4607182418800017408)) (.t 30))⟩, ⟨(some 32), none, (.bin .gtr false (.t 31) (.c (.flt .f64 0)))⟩, ⟨(some 33), none, (.bin .eql true (.t 29) (.t
      32))⟩, ⟨(some 4), none, (.mov (.t 33))⟩] [4]) .ret) .skip)) (.seq (.reg [⟨(some 34), none, (.mov (.t 0))⟩, ⟨(some 35), none, (.mov (.t 1))⟩, ⟨(some 36), none, (.bin .eql false
      (.t 34) (.t 35))⟩, ⟨(some 4), none, (.mov (.t 36))⟩] [4]) .ret))))
def cp24 : CP := { n := 37, kp := [[0, 1], [0, 1, 12], [4], [0, 1, 26], [4], [4]] }
theorem fc24_0 : IntKind.wrap .i64 0 = 0 := by decide
theorem fc24_1 : IntKind.wrap .i64 1 = 1 := by decide
theorem fc24_2 : IntKind.wrap .i64 10 = 10 := by decide
theorem fc24_3 : IntKind.wrap .i64 11 = 11 := by decide
theorem fc24_4 : IntKind.wrap .i64 110 = 110 := by decide
theorem fc24_5 : IntKind.wrap .i64 12 = 12 := by decide
theorem fc24_6 : IntKind.wrap .i64 13 = 13 := by decide
theorem fc24_7 : IntKind.wrap .i64 14 = 14 := by decide
theorem fc24_8 : IntKind.wrap .i64 15 = 15 := by decide
theorem fc24_9 : IntKind.wrap .i64 156 = 156 := by decide
theorem fc24_10 : IntKind.wrap .i64 16 = 16 := by decide
theorem fc24_11 : IntKind.wrap .i64 17 = 17 := by decide
theorem fc24_12 : IntKind.wrap .i64 2 = 2 := by decide
theorem fc24_13 : IntKind.wrap .i64 20 = 20 := by decide
theorem fc24_14 : IntKind.wrap .i64 210 = 210 := by decide
theorem fc24_15 : IntKind.wrap .i64 272 = 272 := by decide
theorem fc24_16 : IntKind.wrap .i64 3 = 3 := by decide
theorem fc24_17 : IntKind.wrap .i64 4 = 4 := by decide
theorem fc24_18 : IntKind.wrap .i64 42 = 42 := by decide
theorem fc24_19 : IntKind.wrap .i64 5 = 5 := by decide
theorem fc24_20 : IntKind.wrap .i64 6 = 6 := by decide
theorem fc24_21 : IntKind.wrap .i64 7 = 7 := by decide
theorem fc24_22 : IntKind.wrap .i64 72 = 72 := by decide
theorem fc24_23 : IntKind.wrap .i64 8 = 8 := by decide
theorem fc24_24 : IntKind.wrap .i64 9 = 9 := by decide
theorem s24 : ∀ vs r, g_laws_sameFloat vs = some r → Says Try.prog 24 vs r := by
  intro vs r h
  unfold g_laws_sameFloat at h
  split at h
  · rename_i y0 y1
    cases h
    refine spec_of (tab := tabOf []) (cp := cp24) (ic := ic24) (rvl := [(.t 4)]) hm tabOk_nil Try.func24 rfl rfl rfl (by kernel_rfl) rfl (Nat.le_of_ble_eq_true rfl) ?_
    show eA _ _ _ _
    unfold ic24
    simp only [
        eA_seq, eA_reg, eA_ret, eA_skip, eA_cond, eA_block, eA_exit, eCc_true, eCc_false, Kq_normal, Kq_ret, Kq_exit, Kb_normal, Kb_exit, Kb_ret, Kreg_eq, eI_nil, bindSt_some,
              bindSt_none, bindSt_ite, eR_eq, eGI_tt, eGI_ff, eGI_tf, eGI_ft, eop, vop, ev_t, ev_c, ev_f, Option.map, put_some, put_none, set_eq, setH_eq, get_eq, hp_eq, keep_cons,
              keep_nil, lk_cons, lk_nil, startSt, envOf, reduceIte, Nat.reduceEqDiff, Nat.reduceAdd, Nat.zero_add, Nat.add_zero, Nat.reduceMul, Nat.reduceLT, Nat.reduceLeDiff, bop,
              uop, intop, fltop, convop, true_or, or_true, Bool.false_eq_true, ret_ok, ret_normal, outV, rvV, rvs, ex_some, pureV, pureX, pureX.pure1', pure1, Bool.true_and,
              Bool.false_and, Bool.and_true, Bool.and_false, Option.isNone_none, AV.cells, AV.one, storable, laid, refless, refless1, List.all_cons, List.all_nil, List.length_cons,
              List.length_nil, List.getElem?_cons_zero, List.getElem?_cons_succ, List.set_cons_zero, List.set_cons_succ, List.set_nil, List.map_cons, List.map_nil, vload, loadC,
              storeC, vnil, vfaddr, vextract, callTo, List.mapM_cons, List.mapM_nil, Option.pure_def, Option.bind_eq_bind, Option.bind_some, tabOf_cons, flatT, flatE, flatC,
              and_self, and_true, true_and, implies_true, forall_const, not_true_eq_false, not_false_eq_true, false_implies, List.take_succ_cons, List.drop_succ_cons,
              List.take_zero, List.drop_zero, Bool.not_true, Bool.not_false, beq_self_eq_true, decide_true, decide_false, eq_self, Int.reduceEq, Int.reduceLE, Int.reduceLT,
              Bool.not_not, Bool.true_or, Bool.or_true, Bool.false_or, Bool.or_false, if_true, if_false, List.getElem?_nil, Kl_normal, Kl_exit, Kl_ret, fc24_0, fc24_1, fc24_2,
              fc24_3, fc24_4, fc24_5, fc24_6, fc24_7, fc24_8, fc24_9, fc24_10, fc24_11, fc24_12, fc24_13, fc24_14, fc24_15, fc24_16, fc24_17, fc24_18, fc24_19, fc24_20, fc24_21,
              fc24_22, fc24_23, fc24_24, cast_lit, toNat_lit, Int.reduceAdd, Int.reduceSub, Int.reduceMul, Int.reduceNeg, Int.reducePow, Nat.reducePow, Int.reduceToNat,
              Nat.reduceSub, Nat.mul_one, Int.toNat_zero, prod_eta, List.nil_append, List.cons_append, List.append_nil, vconv, vmm, vidxA, viaddrA, iaddr_sl, iaddr_lsl, getE,
              vfield, vlen, fillC, fillE, List.replicate, elemsOf, List.length_map, f2iK_eq, bits_i64, bits_i32, bits_u64, bits_u32, bits_u8, e_mov, g_mov, e_pick, g_pick, e_bin,
              g_bin, ↓b_pick, ePk_true, ePk_false]
    repeat' (first
      | ((first | (refine eGI_of (fun h => ?_) (fun h => ?_)) | (refine eCc_of (fun h => ?_) (fun h => ?_)) | (refine ePk_of (fun h => ?_) (fun h => ?_))) <;> (try simp only [Bool.not_eq_true', Bool.not_eq_false'] at h) <;> simp only [h,
        eA_seq, eA_reg, eA_ret, eA_skip, eA_cond, eA_block, eA_exit, eCc_true, eCc_false, Kq_normal, Kq_ret, Kq_exit, Kb_normal, Kb_exit, Kb_ret, Kreg_eq, eI_nil, bindSt_some,
              bindSt_none, bindSt_ite, eR_eq, eGI_tt, eGI_ff, eGI_tf, eGI_ft, eop, vop, ev_t, ev_c, ev_f, Option.map, put_some, put_none, set_eq, setH_eq, get_eq, hp_eq, keep_cons,
              keep_nil, lk_cons, lk_nil, startSt, envOf, reduceIte, Nat.reduceEqDiff, Nat.reduceAdd, Nat.zero_add, Nat.add_zero, Nat.reduceMul, Nat.reduceLT, Nat.reduceLeDiff, bop,
              uop, intop, fltop, convop, true_or, or_true, Bool.false_eq_true, ret_ok, ret_normal, outV, rvV, rvs, ex_some, pureV, pureX, pureX.pure1', pure1, Bool.true_and,
              Bool.false_and, Bool.and_true, Bool.and_false, Option.isNone_none, AV.cells, AV.one, storable, laid, refless, refless1, List.all_cons, List.all_nil, List.length_cons,
              List.length_nil, List.getElem?_cons_zero, List.getElem?_cons_succ, List.set_cons_zero, List.set_cons_succ, List.set_nil, List.map_cons, List.map_nil, vload, loadC,
              storeC, vnil, vfaddr, vextract, callTo, List.mapM_cons, List.mapM_nil, Option.pure_def, Option.bind_eq_bind, Option.bind_some, tabOf_cons, flatT, flatE, flatC,
              and_self, and_true, true_and, implies_true, forall_const, not_true_eq_false, not_false_eq_true, false_implies, List.take_succ_cons, List.drop_succ_cons,
              List.take_zero, List.drop_zero, Bool.not_true, Bool.not_false, beq_self_eq_true, decide_true, decide_false, eq_self, Int.reduceEq, Int.reduceLE, Int.reduceLT,
              Bool.not_not, Bool.true_or, Bool.or_true, Bool.false_or, Bool.or_false, if_true, if_false, List.getElem?_nil, Kl_normal, Kl_exit, Kl_ret, fc24_0, fc24_1, fc24_2,
              fc24_3, fc24_4, fc24_5, fc24_6, fc24_7, fc24_8, fc24_9, fc24_10, fc24_11, fc24_12, fc24_13, fc24_14, fc24_15, fc24_16, fc24_17, fc24_18, fc24_19, fc24_20, fc24_21,
              fc24_22, fc24_23, fc24_24, cast_lit, toNat_lit, Int.reduceAdd, Int.reduceSub, Int.reduceMul, Int.reduceNeg, Int.reducePow, Nat.reducePow, Int.reduceToNat,
              Nat.reduceSub, Nat.mul_one, Int.toNat_zero, prod_eta, List.nil_append, List.cons_append, List.append_nil, vconv, vmm, vidxA, viaddrA, iaddr_sl, iaddr_lsl, getE,
              vfield, vlen, fillC, fillE, List.replicate, elemsOf, List.length_map, f2iK_eq, bits_i64, bits_i32, bits_u64, bits_u32, bits_u8, e_mov, g_mov, e_pick, g_pick, e_bin,
              g_bin, ↓b_pick, ePk_true, ePk_false]))
    all_goals (try simp only [*, m_laws_sameFloat, Bool.and_true, Bool.true_and, Bool.and_false, Bool.false_and, Bool.or_true, Bool.true_or, Bool.or_false, Bool.false_or, Bool.not_true, Bool.not_false, Bool.false_eq_true, if_true, if_false, reduceIte, decide_true, decide_false])
    all_goals (try (simp_all; done))
  · cases h
def m_laws_eqTurn (x0 : (Nat × Nat × Nat × Nat)) (x1 : (Nat × Nat × Nat × Nat)) : Bool := (if (m_laws_sameFloat (widen x0.1) (widen x1.1)) = true then (if (m_laws_sameFloat (widen
      x0.2.1) (widen x1.2.1)) = true then (if (m_laws_sameFloat (widen x0.2.2.1) (widen x1.2.2.1)) = true then (if (m_laws_sameFloat (widen x0.2.2.2) (widen x1.2.2.2)) = true then
      true else false) else false) else false) else false)
def g_laws_eqTurn : List AV → Option AV
  | [.agg [.flt .f32 y0, .flt .f32 y1, .flt .f32 y2, .flt .f32 y3], .agg [.flt .f32 y4, .flt .f32 y5, .flt .f32 y6, .flt .f32 y7]] => some
      (.bool (m_laws_eqTurn (y0, y1, y2, y3) (y4, y5, y6, y7)))
  | _ => none
def ic28 : ICode := (.seq (.reg [⟨(some 2), none, (.box 4 (.t 0))⟩, ⟨(some 3), none, (.box 4 (.t 1))⟩, ⟨(some 4), none, (.mov (.c (.bool false)))⟩] [2, 3]) (.seq (.seq (.reg [⟨(some
      5), none, (.faddr 0 (.t 2))⟩, ⟨(some 6), none, (.load none (.t 5))⟩, ⟨(some 7), none, (.conv (.flt .f64) (.t 6))⟩, ⟨(some 8), none, (.faddr 0 (.t 3))⟩, ⟨(some 9), none, (.load
      none (.t 8))⟩, ⟨(some 10), none, (.conv (.flt .f64) (.t 9))⟩, ⟨(some 11), none, (.call (.fn 24) [(.t 7), (.t 10)] [])⟩, ⟨(some 12), none, (.un .not (.t 11))⟩] [2, 3, 12])
      (.cond (.t 12) (.seq (.reg [⟨(some 4), none, (.mov (.c (.bool false)))⟩] [4]) .ret) .skip)) (.seq (.seq (.reg [⟨(some 13), none, (.faddr 1 (.t 2))⟩, ⟨(some 14), none, (.load
      none (.t 13))⟩, ⟨(some 15), none, (.conv (.flt .f64) (.t 14))⟩, ⟨(some 16), none, (.faddr 1 (.t 3))⟩, ⟨(some 17), none, (.load none (.t 16))⟩, ⟨(some 18), none, (.conv (.flt
      .f64) (.t 17))⟩, ⟨(some 19), none, (.call (.fn 24) [(.t 15), (.t 18)] [])⟩, ⟨(some 20), none, (.un .not (.t 19))⟩] [2, 3, 20]) (.cond (.t 20) (.seq (.reg [⟨(some 4), none,
      (.mov (.c (.bool false)))⟩] [4]) .ret) .skip)) (.seq (.seq (.reg [⟨(some 21), none, (.faddr 2 (.t 2))⟩, ⟨(some 22), none, (.load none (.t 21))⟩, ⟨(some 23), none, (.conv (.flt
      .f64) (.t 22))⟩, ⟨(some 24), none, (.faddr 2 (.t 3))⟩, ⟨(some 25), none, (.load none (.t 24))⟩, ⟨(some 26), none, (.conv (.flt .f64) (.t 25))⟩, ⟨(some 27), none, (.call (.fn
      24) [(.t 23), (.t 26)] [])⟩, ⟨(some 28), none, (.un .not (.t 27))⟩] [2, 3, 28]) (.cond (.t 28) (.seq (.reg [⟨(some 4), none, (.mov (.c (.bool false)))⟩] [4]) .ret) .skip))
      (.seq (.seq (.reg [⟨(some 29), none, (.faddr 3 (.t 2))⟩, ⟨(some 30), none, (.load none (.t 29))⟩, ⟨(some 31), none, (.conv (.flt .f64) (.t 30))⟩, ⟨(some 32), none, (.faddr 3
      (.t 3))⟩, ⟨(some 33), none, (.load none (.t 32))⟩, ⟨(some 34), none, (.conv (.flt .f64) (.t 33))⟩, ⟨(some 35), none, (.call (.fn 24) [(.t 31), (.t 34)] [])⟩, ⟨(some 36), none,
      (.un .not (.t 35))⟩] [36]) (.cond (.t 36) (.seq (.reg [⟨(some 4), none, (.mov (.c (.bool false)))⟩] [4]) .ret) .skip)) (.seq (.reg [⟨(some 4), none, (.mov (.c (.bool true)))⟩]
      [4]) .ret))))))
def cp28 : CP := { n := 37, kp := [[2, 3], [2, 3, 12], [4], [2, 3, 20], [4], [2, 3, 28], [4], [36], [4], [4]] }
theorem fc28_0 : IntKind.wrap .i64 0 = 0 := by decide
theorem fc28_1 : IntKind.wrap .i64 1 = 1 := by decide
theorem fc28_2 : IntKind.wrap .i64 10 = 10 := by decide
theorem fc28_3 : IntKind.wrap .i64 11 = 11 := by decide
theorem fc28_4 : IntKind.wrap .i64 110 = 110 := by decide
theorem fc28_5 : IntKind.wrap .i64 12 = 12 := by decide
theorem fc28_6 : IntKind.wrap .i64 13 = 13 := by decide
theorem fc28_7 : IntKind.wrap .i64 14 = 14 := by decide
theorem fc28_8 : IntKind.wrap .i64 15 = 15 := by decide
theorem fc28_9 : IntKind.wrap .i64 156 = 156 := by decide
theorem fc28_10 : IntKind.wrap .i64 16 = 16 := by decide
theorem fc28_11 : IntKind.wrap .i64 17 = 17 := by decide
theorem fc28_12 : IntKind.wrap .i64 2 = 2 := by decide
theorem fc28_13 : IntKind.wrap .i64 20 = 20 := by decide
theorem fc28_14 : IntKind.wrap .i64 210 = 210 := by decide
theorem fc28_15 : IntKind.wrap .i64 272 = 272 := by decide
theorem fc28_16 : IntKind.wrap .i64 3 = 3 := by decide
theorem fc28_17 : IntKind.wrap .i64 4 = 4 := by decide
theorem fc28_18 : IntKind.wrap .i64 42 = 42 := by decide
theorem fc28_19 : IntKind.wrap .i64 5 = 5 := by decide
theorem fc28_20 : IntKind.wrap .i64 6 = 6 := by decide
theorem fc28_21 : IntKind.wrap .i64 7 = 7 := by decide
theorem fc28_22 : IntKind.wrap .i64 72 = 72 := by decide
theorem fc28_23 : IntKind.wrap .i64 8 = 8 := by decide
theorem fc28_24 : IntKind.wrap .i64 9 = 9 := by decide
theorem s28 : ∀ vs r, g_laws_eqTurn vs = some r → Says Try.prog 28 vs r := by
  intro vs r h
  unfold g_laws_eqTurn at h
  split at h
  · rename_i y0 y1 y2 y3 y4 y5 y6 y7
    cases h
    refine spec_of (tab := tabOf [(24, g_laws_sameFloat)]) (cp := cp28) (ic := ic28) (rvl := [(.t 4)]) hm (tabOk_cons s24 tabOk_nil) Try.func28 rfl rfl rfl (by kernel_rfl) rfl (Nat.le_of_ble_eq_true rfl) ?_
    show eA _ _ _ _
    unfold ic28
    simp only [
        eA_seq, eA_reg, eA_ret, eA_skip, eA_cond, eA_block, eA_exit, eCc_true, eCc_false, Kq_normal, Kq_ret, Kq_exit, Kb_normal, Kb_exit, Kb_ret, Kreg_eq, eI_nil, bindSt_some,
              bindSt_none, bindSt_ite, eR_eq, eGI_tt, eGI_ff, eGI_tf, eGI_ft, eop, vop, ev_t, ev_c, ev_f, Option.map, put_some, put_none, set_eq, setH_eq, get_eq, hp_eq, keep_cons,
              keep_nil, lk_cons, lk_nil, startSt, envOf, reduceIte, Nat.reduceEqDiff, Nat.reduceAdd, Nat.zero_add, Nat.add_zero, Nat.reduceMul, Nat.reduceLT, Nat.reduceLeDiff, bop,
              uop, intop, fltop, convop, true_or, or_true, Bool.false_eq_true, ret_ok, ret_normal, outV, rvV, rvs, ex_some, pureV, pureX, pureX.pure1', pure1, Bool.true_and,
              Bool.false_and, Bool.and_true, Bool.and_false, Option.isNone_none, AV.cells, AV.one, storable, laid, refless, refless1, List.all_cons, List.all_nil, List.length_cons,
              List.length_nil, List.getElem?_cons_zero, List.getElem?_cons_succ, List.set_cons_zero, List.set_cons_succ, List.set_nil, List.map_cons, List.map_nil, vload, loadC,
              storeC, vnil, vfaddr, vextract, callTo, List.mapM_cons, List.mapM_nil, Option.pure_def, Option.bind_eq_bind, Option.bind_some, tabOf_cons, flatT, flatE, flatC,
              and_self, and_true, true_and, implies_true, forall_const, not_true_eq_false, not_false_eq_true, false_implies, List.take_succ_cons, List.drop_succ_cons,
              List.take_zero, List.drop_zero, Bool.not_true, Bool.not_false, beq_self_eq_true, decide_true, decide_false, eq_self, Int.reduceEq, Int.reduceLE, Int.reduceLT,
              Bool.not_not, Bool.true_or, Bool.or_true, Bool.false_or, Bool.or_false, if_true, if_false, List.getElem?_nil, Kl_normal, Kl_exit, Kl_ret, fc28_0, fc28_1, fc28_2,
              fc28_3, fc28_4, fc28_5, fc28_6, fc28_7, fc28_8, fc28_9, fc28_10, fc28_11, fc28_12, fc28_13, fc28_14, fc28_15, fc28_16, fc28_17, fc28_18, fc28_19, fc28_20, fc28_21,
              fc28_22, fc28_23, fc28_24, cast_lit, toNat_lit, Int.reduceAdd, Int.reduceSub, Int.reduceMul, Int.reduceNeg, Int.reducePow, Nat.reducePow, Int.reduceToNat,
              Nat.reduceSub, Nat.mul_one, Int.toNat_zero, prod_eta, List.nil_append, List.cons_append, List.append_nil, vconv, vmm, vidxA, viaddrA, iaddr_sl, iaddr_lsl, getE,
              vfield, vlen, fillC, fillE, List.replicate, elemsOf, List.length_map, f2iK_eq, bits_i64, bits_i32, bits_u64, bits_u32, bits_u8, e_mov, g_mov, e_box, g_box, e_load,
              g_load, e_un, g_un, e_conv, g_conv, e_faddr, g_faddr, e_call, g_call, g_laws_sameFloat]
    repeat' (first
      | ((first | (refine eGI_of (fun h => ?_) (fun h => ?_)) | (refine eCc_of (fun h => ?_) (fun h => ?_))) <;> (try simp only [Bool.not_eq_true', Bool.not_eq_false'] at h) <;> simp only [h,
        eA_seq, eA_reg, eA_ret, eA_skip, eA_cond, eA_block, eA_exit, eCc_true, eCc_false, Kq_normal, Kq_ret, Kq_exit, Kb_normal, Kb_exit, Kb_ret, Kreg_eq, eI_nil, bindSt_some,
              bindSt_none, bindSt_ite, eR_eq, eGI_tt, eGI_ff, eGI_tf, eGI_ft, eop, vop, ev_t, ev_c, ev_f, Option.map, put_some, put_none, set_eq, setH_eq, get_eq, hp_eq, keep_cons,
              keep_nil, lk_cons, lk_nil, startSt, envOf, reduceIte, Nat.reduceEqDiff, Nat.reduceAdd, Nat.zero_add, Nat.add_zero, Nat.reduceMul, Nat.reduceLT, Nat.reduceLeDiff, bop,
              uop, intop, fltop, convop, true_or, or_true, Bool.false_eq_true, ret_ok, ret_normal, outV, rvV, rvs, ex_some, pureV, pureX, pureX.pure1', pure1, Bool.true_and,
              Bool.false_and, Bool.and_true, Bool.and_false, Option.isNone_none, AV.cells, AV.one, storable, laid, refless, refless1, List.all_cons, List.all_nil, List.length_cons,
              List.length_nil, List.getElem?_cons_zero, List.getElem?_cons_succ, List.set_cons_zero, List.set_cons_succ, List.set_nil, List.map_cons, List.map_nil, vload, loadC,
              storeC, vnil, vfaddr, vextract, callTo, List.mapM_cons, List.mapM_nil, Option.pure_def, Option.bind_eq_bind, Option.bind_some, tabOf_cons, flatT, flatE, flatC,
              and_self, and_true, true_and, implies_true, forall_const, not_true_eq_false, not_false_eq_true, false_implies, List.take_succ_cons, List.drop_succ_cons,
              List.take_zero, List.drop_zero, Bool.not_true, Bool.not_false, beq_self_eq_true, decide_true, decide_false, eq_self, Int.reduceEq, Int.reduceLE, Int.reduceLT,
              Bool.not_not, Bool.true_or, Bool.or_true, Bool.false_or, Bool.or_false, if_true, if_false, List.getElem?_nil, Kl_normal, Kl_exit, Kl_ret, fc28_0, fc28_1, fc28_2,
              fc28_3, fc28_4, fc28_5, fc28_6, fc28_7, fc28_8, fc28_9, fc28_10, fc28_11, fc28_12, fc28_13, fc28_14, fc28_15, fc28_16, fc28_17, fc28_18, fc28_19, fc28_20, fc28_21,
              fc28_22, fc28_23, fc28_24, cast_lit, toNat_lit, Int.reduceAdd, Int.reduceSub, Int.reduceMul, Int.reduceNeg, Int.reducePow, Nat.reducePow, Int.reduceToNat,
              Nat.reduceSub, Nat.mul_one, Int.toNat_zero, prod_eta, List.nil_append, List.cons_append, List.append_nil, vconv, vmm, vidxA, viaddrA, iaddr_sl, iaddr_lsl, getE,
              vfield, vlen, fillC, fillE, List.replicate, elemsOf, List.length_map, f2iK_eq, bits_i64, bits_i32, bits_u64, bits_u32, bits_u8, e_mov, g_mov, e_box, g_box, e_load,
              g_load, e_un, g_un, e_conv, g_conv, e_faddr, g_faddr, e_call, g_call, g_laws_sameFloat]))
    all_goals (try simp only [*, m_laws_eqTurn, Bool.and_true, Bool.true_and, Bool.and_false, Bool.false_and, Bool.or_true, Bool.true_or, Bool.or_false, Bool.false_or, Bool.not_true, Bool.not_false, Bool.false_eq_true, if_true, if_false, reduceIte, decide_true, decide_false])
    all_goals (try (simp_all; done))
  · cases h
def m_laws_FnExactTurnAbout (x0 : (Nat × Nat × Nat)) (x1 : Nat) : Bool := (if (m_laws_eqTurn (m_impl_TurnAbout (m_laws_toVector x0) x1) (m_spec_TurnAbout (m_laws_toVector x0) x1)) =
      true then true else false)
def p_laws_FnExactTurnAbout (x0 : (Nat × Nat × Nat)) (x1 : Nat) : Bool := ((p_spec_TurnAbout (m_laws_toVector x0) x1) && (p_impl_TurnAbout (m_laws_toVector x0) x1))
def g_laws_FnExactTurnAbout : List AV → Option AV
  | [.agg [.flt .f32 y0, .flt .f32 y1, .flt .f32 y2], .flt .f32 y3] => if p_laws_FnExactTurnAbout (y0, y1, y2) y3 = true then some
      (.bool (m_laws_FnExactTurnAbout (y0, y1, y2) y3)) else none
  | _ => none
def ic7 : ICode := (.seq (.reg [⟨(some 2), none, (.box 3 (.t 0))⟩, ⟨(some 4), none, (.mov (.c (.bool false)))⟩] [1, 2]) (.seq (.reg [⟨(some 7), none, (.load (some 3) (.t 2))⟩,
      ⟨(some 8), none, (.call (.fn 12) [(.t 7)] [])⟩, ⟨(some 9), none, (.mov (.t 1))⟩, ⟨(some 10), none, (.call (.fn 26) [(.t 8), (.t 9)] [])⟩, ⟨(some 5), none, (.alloc (.agg [(.flt
      .f32 0), (.flt .f32 0), (.flt .f32 0), (.flt .f32 0)]))⟩, ⟨none, none, (.store 4 (.t 5) (.t 10))⟩] [1, 2, 5]) (.seq (.reg [⟨(some 11), none, (.load (some 3) (.t 2))⟩, ⟨(some
      12), none, (.call (.fn 12) [(.t 11)] [])⟩, ⟨(some 13), none, (.mov (.t 1))⟩, ⟨(some 14), none, (.call (.fn 27) [(.t 12), (.t 13)] [])⟩, ⟨(some 6), none, (.alloc (.agg [(.flt
      .f32 0), (.flt .f32 0), (.flt .f32 0), (.flt .f32 0)]))⟩, ⟨none, none, (.store 4 (.t 6) (.t 14))⟩] [5, 6]) (.seq (.seq (.reg [⟨(some 15), none, (.load (some 4) (.t 6))⟩,
      ⟨(some 16), none, (.load (some 4) (.t 5))⟩, ⟨(some 17), none, (.call (.fn 28) [(.t 15), (.t 16)] [])⟩, ⟨(some 18), none, (.un .not (.t 17))⟩] [18]) (.cond (.t 18) (.seq (.reg
      [⟨(some 4), none, (.mov (.c (.bool false)))⟩] [4]) .ret) .skip)) (.seq (.reg [⟨(some 4), none, (.mov (.c (.bool true)))⟩] [4]) .ret)))))
def cp7 : CP := { n := 19, kp := [[1, 2], [1, 2, 5], [5, 6], [18], [4], [4]] }
theorem fc7_0 : IntKind.wrap .i64 0 = 0 := by decide
theorem fc7_1 : IntKind.wrap .i64 1 = 1 := by decide
theorem fc7_2 : IntKind.wrap .i64 10 = 10 := by decide
theorem fc7_3 : IntKind.wrap .i64 11 = 11 := by decide
theorem fc7_4 : IntKind.wrap .i64 110 = 110 := by decide
theorem fc7_5 : IntKind.wrap .i64 12 = 12 := by decide
theorem fc7_6 : IntKind.wrap .i64 13 = 13 := by decide
theorem fc7_7 : IntKind.wrap .i64 14 = 14 := by decide
theorem fc7_8 : IntKind.wrap .i64 15 = 15 := by decide
theorem fc7_9 : IntKind.wrap .i64 156 = 156 := by decide
theorem fc7_10 : IntKind.wrap .i64 16 = 16 := by decide
theorem fc7_11 : IntKind.wrap .i64 17 = 17 := by decide
theorem fc7_12 : IntKind.wrap .i64 2 = 2 := by decide
theorem fc7_13 : IntKind.wrap .i64 20 = 20 := by decide
theorem fc7_14 : IntKind.wrap .i64 210 = 210 := by decide
theorem fc7_15 : IntKind.wrap .i64 272 = 272 := by decide
theorem fc7_16 : IntKind.wrap .i64 3 = 3 := by decide
theorem fc7_17 : IntKind.wrap .i64 4 = 4 := by decide
theorem fc7_18 : IntKind.wrap .i64 42 = 42 := by decide
theorem fc7_19 : IntKind.wrap .i64 5 = 5 := by decide
theorem fc7_20 : IntKind.wrap .i64 6 = 6 := by decide
theorem fc7_21 : IntKind.wrap .i64 7 = 7 := by decide
theorem fc7_22 : IntKind.wrap .i64 72 = 72 := by decide
theorem fc7_23 : IntKind.wrap .i64 8 = 8 := by decide
theorem fc7_24 : IntKind.wrap .i64 9 = 9 := by decide
theorem s7 : ∀ vs r, g_laws_FnExactTurnAbout vs = some r → Says Try.prog 7 vs r := by
  intro vs r h
  unfold g_laws_FnExactTurnAbout at h
  split at h
  · rename_i y0 y1 y2 y3
    split at h
    · rename_i hp
      cases h
      refine spec_of (tab := tabOf [(12, g_laws_toVector), (26, g_spec_TurnAbout), (27, g_impl_TurnAbout), (28, g_laws_eqTurn)]) (cp := cp7) (ic := ic7) (rvl := [(.t 4)]) hm (tabOk_cons s12 (tabOk_cons s26 (tabOk_cons s27 (tabOk_cons s28 tabOk_nil)))) Try.func7 rfl rfl rfl (by kernel_rfl) rfl (Nat.le_of_ble_eq_true rfl) ?_
      show eA _ _ _ _
      unfold ic7
      simp only [p_laws_FnExactTurnAbout, Bool.and_eq_true, Bool.or_eq_true, decide_eq_true_eq, Bool.not_eq_true', decide_eq_false_iff_not] at hp
      simp only [
          hp, eA_seq, eA_reg, eA_ret, eA_skip, eA_cond, eA_block, eA_exit, eCc_true, eCc_false, Kq_normal, Kq_ret, Kq_exit, Kb_normal, Kb_exit, Kb_ret, Kreg_eq, eI_nil, bindSt_some,
                bindSt_none, bindSt_ite, eR_eq, eGI_tt, eGI_ff, eGI_tf, eGI_ft, eop, vop, ev_t, ev_c, ev_f, Option.map, put_some, put_none, set_eq, setH_eq, get_eq, hp_eq,
                keep_cons, keep_nil, lk_cons, lk_nil, startSt, envOf, reduceIte, Nat.reduceEqDiff, Nat.reduceAdd, Nat.zero_add, Nat.add_zero, Nat.reduceMul, Nat.reduceLT,
                Nat.reduceLeDiff, bop, uop, intop, fltop, convop, true_or, or_true, Bool.false_eq_true, ret_ok, ret_normal, outV, rvV, rvs, ex_some, pureV, pureX, pureX.pure1',
                pure1, Bool.true_and, Bool.false_and, Bool.and_true, Bool.and_false, Option.isNone_none, AV.cells, AV.one, storable, laid, refless, refless1, List.all_cons,
                List.all_nil, List.length_cons, List.length_nil, List.getElem?_cons_zero, List.getElem?_cons_succ, List.set_cons_zero, List.set_cons_succ, List.set_nil,
                List.map_cons, List.map_nil, vload, loadC, storeC, vnil, vfaddr, vextract, callTo, List.mapM_cons, List.mapM_nil, Option.pure_def, Option.bind_eq_bind,
                Option.bind_some, tabOf_cons, flatT, flatE, flatC, and_self, and_true, true_and, implies_true, forall_const, not_true_eq_false, not_false_eq_true, false_implies,
                List.take_succ_cons, List.drop_succ_cons, List.take_zero, List.drop_zero, Bool.not_true, Bool.not_false, beq_self_eq_true, decide_true, decide_false, eq_self,
                Int.reduceEq, Int.reduceLE, Int.reduceLT, Bool.not_not, Bool.true_or, Bool.or_true, Bool.false_or, Bool.or_false, if_true, if_false, List.getElem?_nil, Kl_normal,
                Kl_exit, Kl_ret, fc7_0, fc7_1, fc7_2, fc7_3, fc7_4, fc7_5, fc7_6, fc7_7, fc7_8, fc7_9, fc7_10, fc7_11, fc7_12, fc7_13, fc7_14, fc7_15, fc7_16, fc7_17, fc7_18,
                fc7_19, fc7_20, fc7_21, fc7_22, fc7_23, fc7_24, cast_lit, toNat_lit, Int.reduceAdd, Int.reduceSub, Int.reduceMul, Int.reduceNeg, Int.reducePow, Nat.reducePow,
                Int.reduceToNat, Nat.reduceSub, Nat.mul_one, Int.toNat_zero, prod_eta, List.nil_append, List.cons_append, List.append_nil, vconv, vmm, vidxA, viaddrA, iaddr_sl,
                iaddr_lsl, getE, vfield, vlen, fillC, fillE, List.replicate, elemsOf, List.length_map, f2iK_eq, bits_i64, bits_i32, bits_u64, bits_u32, bits_u8, e_mov, g_mov,
                e_alloc, g_alloc, e_box, g_box, e_load, g_load, e_store, g_store, e_un, g_un, e_call, g_call, g_laws_toVector, g_spec_TurnAbout, g_impl_TurnAbout, g_laws_eqTurn]
      repeat' (first
        | ((first | (refine eGI_of (fun h => ?_) (fun h => ?_)) | (refine eCc_of (fun h => ?_) (fun h => ?_))) <;> (try simp only [Bool.not_eq_true', Bool.not_eq_false'] at h) <;> (try simp only [h, reduceCtorEq, Bool.not_eq_true', decide_eq_false_iff_not, Bool.not_true, Bool.not_false, Bool.false_or, Bool.true_or, Bool.true_and, Bool.false_and, Bool.and_eq_true, Bool.or_eq_true, if_true, if_false, reduceIte, Bool.false_eq_true, and_true, true_and, false_or, or_false, decide_eq_true_eq, not_false_eq_true, not_true_eq_false] at hp) <;> (try (have h2 := h; simp only [decide_eq_true_eq, decide_eq_false_iff_not] at h2; simp only [h2, if_true, if_false, false_or, true_or, or_true, or_false, and_true, true_and, not_false_eq_true, not_true_eq_false] at hp)) <;> simp only [h,
          hp, eA_seq, eA_reg, eA_ret, eA_skip, eA_cond, eA_block, eA_exit, eCc_true, eCc_false, Kq_normal, Kq_ret, Kq_exit, Kb_normal, Kb_exit, Kb_ret, Kreg_eq, eI_nil, bindSt_some,
                bindSt_none, bindSt_ite, eR_eq, eGI_tt, eGI_ff, eGI_tf, eGI_ft, eop, vop, ev_t, ev_c, ev_f, Option.map, put_some, put_none, set_eq, setH_eq, get_eq, hp_eq,
                keep_cons, keep_nil, lk_cons, lk_nil, startSt, envOf, reduceIte, Nat.reduceEqDiff, Nat.reduceAdd, Nat.zero_add, Nat.add_zero, Nat.reduceMul, Nat.reduceLT,
                Nat.reduceLeDiff, bop, uop, intop, fltop, convop, true_or, or_true, Bool.false_eq_true, ret_ok, ret_normal, outV, rvV, rvs, ex_some, pureV, pureX, pureX.pure1',
                pure1, Bool.true_and, Bool.false_and, Bool.and_true, Bool.and_false, Option.isNone_none, AV.cells, AV.one, storable, laid, refless, refless1, List.all_cons,
                List.all_nil, List.length_cons, List.length_nil, List.getElem?_cons_zero, List.getElem?_cons_succ, List.set_cons_zero, List.set_cons_succ, List.set_nil,
                List.map_cons, List.map_nil, vload, loadC, storeC, vnil, vfaddr, vextract, callTo, List.mapM_cons, List.mapM_nil, Option.pure_def, Option.bind_eq_bind,
                Option.bind_some, tabOf_cons, flatT, flatE, flatC, and_self, and_true, true_and, implies_true, forall_const, not_true_eq_false, not_false_eq_true, false_implies,
                List.take_succ_cons, List.drop_succ_cons, List.take_zero, List.drop_zero, Bool.not_true, Bool.not_false, beq_self_eq_true, decide_true, decide_false, eq_self,
                Int.reduceEq, Int.reduceLE, Int.reduceLT, Bool.not_not, Bool.true_or, Bool.or_true, Bool.false_or, Bool.or_false, if_true, if_false, List.getElem?_nil, Kl_normal,
                Kl_exit, Kl_ret, fc7_0, fc7_1, fc7_2, fc7_3, fc7_4, fc7_5, fc7_6, fc7_7, fc7_8, fc7_9, fc7_10, fc7_11, fc7_12, fc7_13, fc7_14, fc7_15, fc7_16, fc7_17, fc7_18,
                fc7_19, fc7_20, fc7_21, fc7_22, fc7_23, fc7_24, cast_lit, toNat_lit, Int.reduceAdd, Int.reduceSub, Int.reduceMul, Int.reduceNeg, Int.reducePow, Nat.reducePow,
                Int.reduceToNat, Nat.reduceSub, Nat.mul_one, Int.toNat_zero, prod_eta, List.nil_append, List.cons_append, List.append_nil, vconv, vmm, vidxA, viaddrA, iaddr_sl,
                iaddr_lsl, getE, vfield, vlen, fillC, fillE, List.replicate, elemsOf, List.length_map, f2iK_eq, bits_i64, bits_i32, bits_u64, bits_u32, bits_u8, e_mov, g_mov,
                e_alloc, g_alloc, e_box, g_box, e_load, g_load, e_store, g_store, e_un, g_un, e_call, g_call, g_laws_toVector, g_spec_TurnAbout, g_impl_TurnAbout, g_laws_eqTurn]))
      all_goals (try simp only [*, m_laws_FnExactTurnAbout, Bool.and_true, Bool.true_and, Bool.and_false, Bool.false_and, Bool.or_true, Bool.true_or, Bool.or_false, Bool.false_or, Bool.not_true, Bool.not_false, Bool.false_eq_true, if_true, if_false, reduceIte, decide_true, decide_false])
      all_goals (try (simp_all; done))
    · cases h
  · cases h
end Go.Proofs
namespace Go.Proofs
open Go.Ab
theorem sameFloat_refl (x : Nat) : m_laws_sameFloat x x = true := by
  unfold m_laws_sameFloat
  by_cases h : feq .f64 x x = true
  · simp [h]
  · simp [h]
end Go.Proofs
namespace Go.Proofs
open Go.Ab
theorem pLong (v : Nat × Nat × Nat) : p_spec_l01Long v = true := sqrt_narrow _
theorem pLongOf (v : Nat × Nat × Nat) : p_impl_LongOf v = true := sqrt_narrow _
theorem long_eq (v : Nat × Nat × Nat) : m_spec_l01Long v = m_impl_LongOf v := rfl
theorem isLength_eq (n : Nat) : m_impl_isLength n = (!(feq .f32 n 0) && m_spec_l01Finite n) := by
  unfold m_impl_isLength
  show (if m_spec_l01Finite n = true then _ else _) = _
  cases m_spec_l01Finite n <;> simp
end Go.Proofs
namespace Go.Proofs
open Go.Ab Ieee
theorem nan_ok : narrowOk m_math_NaN = true := by decide
theorem fle_ex {a b v w : Nat} {s t : Bool} (ha : Ex FloatKind.f64.format s a v) (hb : Ex FloatKind.f64.format t b w) : fle .f64 a b = decide (sg s v ≤ sg t w) := by
  have h := ford_ex ha hb
  unfold fle
  rw [h]
  rcases Int.lt_trichotomy (sg s v) (sg t w) with k | k | k
  · rw [Int.compare_eq_lt.2 k]; simp; omega
  · rw [k, Int.compare_eq_eq.2 rfl]; simp
  · rw [Int.compare_eq_gt.2 k]; simp; omega
theorem sine_bd {X : Nat} (h0 : Bd (fsub .f64 X (ofInt .f64 (f2iV .f64 X))) 0) : narrowOk (if (fle .f64 4602678819172646912 (v_spec_l01SineWide_0 X)) = true then (v_spec_l01SineWide_11 X) else (fmul .f64 (fmul .f64 (v_spec_l01SineWide_2 X) 4618760256179416344) (fsub .f64 4607182418800017408 (fdiv .f64 (v_spec_l01SineWide_10 X) (ofInt .f64 6))))) = true := by
  have c2 : Bd 4602678819172646912 1 := bd_const (s := false) (m := 2 ^ 52) (e := -53) (by decide) (by decide) (by decide) (by decide)
  have f0 : Bd (v_spec_l01SineWide_0 X) 1 := by
    unfold v_spec_l01SineWide_0
    split
    · exact bd_add h0 bd_one (by omega)
    · exact h0.mono (by omega)
  have f1 : Bd (v_spec_l01SineWide_1 X) 2 := by
    unfold v_spec_l01SineWide_1
    split
    · exact bd_sub f0 c2 (by omega)
    · exact f0.mono (by omega)
  have f2 : Bd (v_spec_l01SineWide_2 X) 3 := by
    unfold v_spec_l01SineWide_2
    split
    · exact bd_sub (c2.mono (by omega)) f1 (by omega)
    · exact f1.mono (by omega)
  have cpi : Bd 4618760256179416344 3 := bd_const (s := false) (m := 7074237752028440) (e := -50) (by decide) (by decide) (by decide) (by decide)
  have z := bd_mul f2 cpi (by omega)
  have u := bd_mul z z (by omega)
  have step : ∀ {p n : Nat} (k : Nat), Bd p n → 1 ≤ k → k < 1000 → n ≤ 800 → Bd (fsub .f64 4607182418800017408 (fdiv .f64 (fmul .f64 (fmul .f64 (fmul .f64 (v_spec_l01SineWide_2 X) 4618760256179416344) (fmul .f64 (v_spec_l01SineWide_2 X) 4618760256179416344)) p) (ofInt .f64 (k : Int)))) (n + 13) := by
    intro p n k hp h1 h2 h3
    have a := bd_mul u hp (by omega)
    have b := bd_div a (ge1_ofInt h1 (by omega)) (by omega)
    exact (bd_sub (bd_one.mono (Nat.zero_le _)) b (by omega)).mono (by omega)
  have p1 := step 272 bd_one (by omega) (by omega) (by omega)
  have p2 := step 210 p1 (by omega) (by omega) (by omega)
  have p3 := step 156 p2 (by omega) (by omega) (by omega)
  have p4 := step 110 p3 (by omega) (by omega) (by omega)
  have p5 := step 72 p4 (by omega) (by omega) (by omega)
  have p6 := step 42 p5 (by omega) (by omega) (by omega)
  have p7 := step 20 p6 (by omega) (by omega) (by omega)
  have p8 := step 6 p7 (by omega) (by omega) (by omega)
  have r := bd_mul z p8 (by omega)
  split
  · exact narrowOk_of_bd (bd_neg r) (by omega)
  · exact narrowOk_of_bd r (by omega)
theorem sine_all {X : Nat} (hX : X < 2 ^ 64) : p_spec_l01SineWide X = true ∧ m_spec_l01SineWide X = m_impl_wideSine X ∧ narrowOk (m_impl_wideSine X) = true := by
  by_cases hf : feq .f64 (fsub .f64 X X) 0 = true
  · obtain ⟨s, m, e, hr⟩ := fin64 hf
    obtain ⟨v, hx⟩ := read_ex hr
    obtain ⟨W, hW⟩ : ∃ W : Nat, W = 1074 := ⟨_, rfl⟩
    have ha : Ex FloatKind.f64.format false (fabs X) v := by
      obtain ⟨m, e, h1, h2, h3⟩ := hx
      exact ⟨m, e, fabs_number h1, h2, h3⟩
    obtain ⟨P, hP⟩ : ∃ P : Nat, P = 2 ^ (52 + W) := ⟨_, rfl⟩
    have hc : ∀ (b : Bool) (c : Nat), FloatKind.f64.format.read c = .number b (2 ^ 52) 0 → Ex FloatKind.f64.format b c P := by
      intro b c h
      refine ⟨_, _, h, by rw [lp64]; decide, ?_⟩
      rw [hP, lp64, ← Nat.pow_add]
      exact congrArg (2 ^ ·) (by omega)
    have hp := hc false 4841369599423283200 (by decide)
    have hn := hc true 14064741636278059008 (by decide)
    have q1 := fle_ex hp ha
    have q2 := fle_ex hp hx
    have q3 := fle_ex hx hn
    have zf : ∀ n : Nat, sg false n = (n : Int) := fun _ => rfl
    rw [zf, zf] at q1
    rw [zf] at q2
    rw [sg_true] at q3
    by_cases hv : v < P
    · obtain ⟨g1, g2, g3⟩ := frac_same hW hx hX (by rw [← hP]; exact hv)
      have n1 : fle .f64 4841369599423283200 (fabs X) = false := by rw [q1]; simp; omega
      have n2 : fle .f64 4841369599423283200 X = false := by
        rw [q2]
        have : sg s v ≤ v := by unfold sg; split <;> omega
        simp; omega
      have n3 : fle .f64 X 14064741636278059008 = false := by
        rw [q3]
        have : -(v : Int) ≤ sg s v := by unfold sg; split <;> omega
        simp; omega
      have pl : m_impl_placesOf X = v_spec_l01SineWide_0 X := by
        unfold m_impl_placesOf v_impl_placesOf_0 v_spec_l01SineWide_0 m_math_Trunc
        rw [g1]
      have s2 : v_impl_sine_2 X = v_spec_l01SineWide_2 X := by
        unfold v_impl_sine_2 v_impl_sine_0 v_impl_sine_1 v_spec_l01SineWide_2 v_spec_l01SineWide_1
        rw [pl]
      have s10 : v_impl_sine_10 X = v_spec_l01SineWide_10 X := by
        unfold v_impl_sine_10 v_impl_sine_9 v_impl_sine_8 v_impl_sine_7 v_impl_sine_6 v_impl_sine_5 v_impl_sine_4 v_impl_sine_3
        rw [s2]
        rfl
      have hs : m_impl_sine X = (if (fle .f64 4602678819172646912 (v_spec_l01SineWide_0 X)) = true then (v_spec_l01SineWide_11 X) else (fmul .f64 (fmul .f64 (v_spec_l01SineWide_2 X) 4618760256179416344) (fsub .f64 4607182418800017408 (fdiv .f64 (v_spec_l01SineWide_10 X) (ofInt .f64 6))))) := by
        unfold m_impl_sine v_spec_l01SineWide_11
        rw [pl, s2, s10]
      have hw : m_impl_wideSine X = (if (fle .f64 4602678819172646912 (v_spec_l01SineWide_0 X)) = true then (v_spec_l01SineWide_11 X) else (fmul .f64 (fmul .f64 (v_spec_l01SineWide_2 X) 4618760256179416344) (fsub .f64 4607182418800017408 (fdiv .f64 (v_spec_l01SineWide_10 X) (ofInt .f64 6))))) := by
        unfold m_impl_wideSine
        rw [hf, n1, if_pos rfl, if_neg (by decide), hs]
      refine ⟨?_, ?_, ?_⟩
      · unfold p_spec_l01SineWide
        rw [g2]; simp
      · rw [hw]
        unfold m_spec_l01SineWide
        rw [hf, n2, n3, if_pos rfl, if_neg (by decide), if_neg (by decide)]
      · rw [hw]; exact sine_bd g3
    · have n1 : fle .f64 4841369599423283200 (fabs X) = true := by rw [q1]; simp; omega
      have n23 : fle .f64 4841369599423283200 X = true ∨ fle .f64 X 14064741636278059008 = true := by
        rw [q2, q3]
        cases s
        · left; rw [zf]; simp; omega
        · right; rw [sg_true]; simp; omega
      have hw : m_impl_wideSine X = 0 := by
        unfold m_impl_wideSine
        rw [hf, n1, if_pos rfl, if_pos rfl]
      refine ⟨?_, ?_, by rw [hw]; decide⟩
      · unfold p_spec_l01SineWide
        rcases n23 with h | h <;> rw [h] <;> simp
      · rw [hw]
        unfold m_spec_l01SineWide
        rw [hf, if_pos rfl]
        rcases n23 with h | h
        · rw [h]; rfl
        · rw [h]
          by_cases h5 : fle .f64 4841369599423283200 X = true
          · rw [if_pos h5]
          · rw [if_neg h5]; rfl
  · have hf' : feq .f64 (fsub .f64 X X) 0 = false := by simpa using hf
    have hw : m_impl_wideSine X = m_math_NaN := by
      unfold m_impl_wideSine; rw [hf']; rfl
    refine ⟨?_, ?_, by rw [hw]; exact nan_ok⟩
    · unfold p_spec_l01SineWide; rw [hf']; rfl
    · rw [hw]; unfold m_spec_l01SineWide; rw [hf']; rfl
end Go.Proofs
namespace Go.Proofs
open Go.Ab Ieee
theorem op2_lt {g : Datum → Datum → Option Datum} (a b : Nat) : op2 .f64 g a b < 2 ^ 64 := by
  unfold op2
  cases g (FloatKind.f64.format.read a) (FloatKind.f64.format.read b) with
  | none => show nan .f64 < _; decide
  | some d => exact FloatKind.f64.format.write_lt d
theorem about_all (v : Nat × Nat × Nat) (x : Nat) : p_spec_l02About v x = true ∧ p_impl_TurnAbout v x = true ∧ m_spec_l02About v x = m_impl_TurnAbout v x := by
  have h1 := sine_all (X := fdiv .f64 (widen x) 4611686018427387904) (op2_lt _ _)
  have h2 := sine_all (X := fadd .f64 (fdiv .f64 (widen x) 4611686018427387904) 4598175219545276416) (op2_lt _ _)
  have n : ∀ c, p_spec_l01Narrow c = narrowOk c := fun _ => rfl
  refine ⟨?_, ?_, ?_⟩
  · unfold p_spec_l02About
    rw [pLong, h1.1, h2.1, n, n, h1.2.1, h2.2.1, h1.2.2, h2.2.2]; simp
  · unfold p_impl_TurnAbout
    rw [pLongOf, h1.2.2, h2.2.2]; simp
  · unfold m_spec_l02About m_impl_TurnAbout
    rw [isLength_eq, long_eq, h1.2.1, h2.2.1]
    cases hz : feq .f32 (m_impl_LongOf v) 0 <;> cases hf : m_spec_l01Finite (m_impl_LongOf v) <;> rfl
end Go.Proofs
namespace Go.Proofs
open Go.Ab
theorem eqTurn_refl (x : Nat × Nat × Nat × Nat) : m_laws_eqTurn x x = true := by
  unfold m_laws_eqTurn
  simp [sameFloat_refl]
theorem law_TurnAbout (a b c : Nat) (_ : Canon .f32 a) (_ : Canon .f32 b) (_ : Canon .f32 c) (x : Nat) (_ : Canon .f32 x) :
    g_laws_FnExactTurnAbout [.agg [.flt .f32 a, .flt .f32 b, .flt .f32 c], .flt .f32 x] = some (.bool true) := by
  obtain ⟨k1, k2, k3⟩ := about_all (a, b, c) x
  have h1 : p_laws_FnExactTurnAbout (a, b, c) x = true := by
    show (p_spec_l02About (a, b, c) x && p_impl_TurnAbout (a, b, c) x) = true
    rw [k1, k2]; rfl
  have h2 : m_laws_FnExactTurnAbout (a, b, c) x = true := by
    show (if (m_laws_eqTurn (m_impl_TurnAbout (a, b, c) x) (m_spec_l02About (a, b, c) x)) = true then true else false) = true
    rw [k3, eqTurn_refl]; rfl
  unfold g_laws_FnExactTurnAbout
  simp [h1, h2]
end Go.Proofs
