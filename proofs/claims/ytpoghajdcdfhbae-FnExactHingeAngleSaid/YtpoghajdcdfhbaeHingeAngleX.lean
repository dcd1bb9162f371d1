/- What the functions that FnExactHingeAngle reaches compute, and that the program's and the reference's answers are the same. No conditions. -/
import Derived.Test.YtpoghajdcdfhbaeFwE
import Derived.Test.YtpoghajdcdfhbaeProg
import Derived.KernelRfl
set_option maxRecDepth 100000
set_option maxHeartbeats 4000000
set_option linter.all false
namespace Go.Proofs
open Go.Ab
theorem hm : Try.prog.follows .mixedOrders = true := by kernel_rfl
def m_laws_toTurn (x0 : (Nat × Nat × Nat × Nat)) : (Nat × Nat × Nat × Nat) := (x0.1, x0.2.1, x0.2.2.1, x0.2.2.2)
def g_laws_toTurn : List AV → Option AV
  | [.agg [.flt .f32 y0, .flt .f32 y1, .flt .f32 y2, .flt .f32 y3]] => some (AV.agg [(.flt .f32 (m_laws_toTurn (y0, y1, y2, y3)).1), (.flt
      .f32 (m_laws_toTurn (y0, y1, y2, y3)).2.1), (.flt .f32 (m_laws_toTurn (y0, y1, y2, y3)).2.2.1), (.flt .f32 (m_laws_toTurn (y0, y1, y2, y3)).2.2.2)])
  | _ => none
def ic22 : ICode := (.seq (.reg [⟨(some 1), none, (.box 4 (.t 0))⟩, ⟨(some 2), none, (.alloc (.agg [(.flt .f32 0), (.flt .f32 0), (.flt .f32 0), (.flt .f32 0)]))⟩] [1, 2]) (.seq
      (.reg [⟨(some 3), none, (.alloc (.agg [(.flt .f32 0), (.flt .f32 0), (.flt .f32 0), (.flt .f32 0)]))⟩] [1, 2, 3]) (.seq (.reg [⟨(some 4), none, (.faddr 0 (.t 1))⟩, ⟨(some 5),
      none, (.load none (.t 4))⟩, ⟨(some 6), none, (.faddr 0 (.t 3))⟩, ⟨none, none, (.store 1 (.t 6) (.t 5))⟩] [1, 2, 3]) (.seq (.reg [⟨(some 7), none, (.faddr 1 (.t 1))⟩, ⟨(some
      8), none, (.load none (.t 7))⟩, ⟨(some 9), none, (.faddr 1 (.t 3))⟩, ⟨none, none, (.store 1 (.t 9) (.t 8))⟩] [1, 2, 3]) (.seq (.reg [⟨(some 10), none, (.faddr 2 (.t 1))⟩,
      ⟨(some 11), none, (.load none (.t 10))⟩, ⟨(some 12), none, (.faddr 2 (.t 3))⟩, ⟨none, none, (.store 1 (.t 12) (.t 11))⟩] [1, 2, 3]) (.seq (.reg [⟨(some 13), none, (.faddr 3
      (.t 1))⟩, ⟨(some 14), none, (.load none (.t 13))⟩, ⟨(some 15), none, (.faddr 3 (.t 3))⟩, ⟨none, none, (.store 1 (.t 15) (.t 14))⟩] [2, 3]) (.seq (.reg [⟨(some 16), none,
      (.load (some 4) (.t 3))⟩, ⟨none, none, (.store 4 (.t 2) (.t 16))⟩] [2]) .ret)))))))
def cp22 : CP := { n := 17, kp := [[1, 2], [1, 2, 3], [1, 2, 3], [1, 2, 3], [1, 2, 3], [2, 3], [2]] }
theorem fc22_0 : IntKind.wrap .i64 (-1) = (-1) := by decide
theorem fc22_1 : IntKind.wrap .i64 1 = 1 := by decide
theorem fc22_2 : IntKind.wrap .i64 11 = 11 := by decide
theorem fc22_3 : IntKind.wrap .i64 13 = 13 := by decide
theorem fc22_4 : IntKind.wrap .i64 2 = 2 := by decide
theorem fc22_5 : IntKind.wrap .i64 3 = 3 := by decide
theorem fc22_6 : IntKind.wrap .i64 5 = 5 := by decide
theorem fc22_7 : IntKind.wrap .i64 7 = 7 := by decide
theorem fc22_8 : IntKind.wrap .i64 9 = 9 := by decide
theorem s22 : ∀ vs r, g_laws_toTurn vs = some r → Says Try.prog 22 vs r := by
  intro vs r h
  unfold g_laws_toTurn at h
  split at h
  · rename_i y0 y1 y2 y3
    cases h
    refine spec_of (tab := tabOf []) (cp := cp22) (ic := ic22) (rvl := [(.c 2 (some 4))]) hm tabOk_nil Try.func22 rfl rfl rfl (by kernel_rfl) rfl (Nat.le_of_ble_eq_true rfl) ?_
    show eA _ _ _ _
    unfold ic22
    simp only [
        eA_seq, eA_reg, eA_ret, eA_skip, eA_cond, eA_block, eA_exit, eCc_true, eCc_false, Kq_normal, Kq_ret, Kq_exit, Kb_normal, Kb_exit, Kb_ret, Kreg_eq, eI_nil, bindSt_some,
              bindSt_none, bindSt_ite, eR_eq, eGI_tt, eGI_ff, eGI_tf, eGI_ft, eop, vop, ev_t, ev_c, ev_f, Option.map, put_some, put_none, set_eq, setH_eq, get_eq, hp_eq, keep_cons,
              keep_nil, lk_cons, lk_nil, startSt, envOf, reduceIte, Nat.reduceEqDiff, Nat.reduceAdd, Nat.zero_add, Nat.add_zero, Nat.reduceMul, Nat.reduceLT, Nat.reduceLeDiff, bop,
              uop, intop, fltop, convop, true_or, or_true, Bool.false_eq_true, ret_ok, ret_normal, outV, rvV, rvs, ex_some, pureV, pureX, pureX.pure1', pure1, Bool.true_and,
              Bool.false_and, Bool.and_true, Bool.and_false, Option.isNone_none, AV.cells, AV.one, storable, laid, refless, refless1, List.all_cons, List.all_nil, List.length_cons,
              List.length_nil, List.getElem?_cons_zero, List.getElem?_cons_succ, List.set_cons_zero, List.set_cons_succ, List.set_nil, List.map_cons, List.map_nil, vload, loadC,
              storeC, vnil, vfaddr, vextract, callTo, List.mapM_cons, List.mapM_nil, Option.pure_def, Option.bind_eq_bind, Option.bind_some, tabOf_cons, flatT, flatE, flatC,
              and_self, and_true, true_and, implies_true, forall_const, not_true_eq_false, not_false_eq_true, false_implies, List.take_succ_cons, List.drop_succ_cons,
              List.take_zero, List.drop_zero, Bool.not_true, Bool.not_false, beq_self_eq_true, decide_true, decide_false, eq_self, Int.reduceEq, Int.reduceLE, Int.reduceLT,
              Bool.not_not, Bool.true_or, Bool.or_true, Bool.false_or, Bool.or_false, if_true, if_false, List.getElem?_nil, Kl_normal, Kl_exit, Kl_ret, fc22_0, fc22_1, fc22_2,
              fc22_3, fc22_4, fc22_5, fc22_6, fc22_7, fc22_8, cast_lit, toNat_lit, Int.reduceAdd, Int.reduceSub, Int.reduceMul, Int.reduceNeg, Int.reducePow, Nat.reducePow,
              Int.reduceToNat, Nat.reduceSub, Nat.mul_one, Int.toNat_zero, prod_eta, List.nil_append, List.cons_append, List.append_nil, vconv, vmm, vidxA, viaddrA, iaddr_sl,
              iaddr_lsl, getE, vfield, vlen, fillC, fillE, List.replicate, elemsOf, List.length_map, f2iK_eq, bits_i64, bits_i32, bits_u64, bits_u32, bits_u8, e_alloc, g_alloc,
              e_box, g_box, e_load, g_load, e_store, g_store, e_faddr, g_faddr]
    repeat' (first
      | ((first | (refine eGI_of (fun h => ?_) (fun h => ?_)) | (refine eCc_of (fun h => ?_) (fun h => ?_))) <;> (try simp only [Bool.not_eq_true', Bool.not_eq_false'] at h) <;> simp only [h,
        eA_seq, eA_reg, eA_ret, eA_skip, eA_cond, eA_block, eA_exit, eCc_true, eCc_false, Kq_normal, Kq_ret, Kq_exit, Kb_normal, Kb_exit, Kb_ret, Kreg_eq, eI_nil, bindSt_some,
              bindSt_none, bindSt_ite, eR_eq, eGI_tt, eGI_ff, eGI_tf, eGI_ft, eop, vop, ev_t, ev_c, ev_f, Option.map, put_some, put_none, set_eq, setH_eq, get_eq, hp_eq, keep_cons,
              keep_nil, lk_cons, lk_nil, startSt, envOf, reduceIte, Nat.reduceEqDiff, Nat.reduceAdd, Nat.zero_add, Nat.add_zero, Nat.reduceMul, Nat.reduceLT, Nat.reduceLeDiff, bop,
              uop, intop, fltop, convop, true_or, or_true, Bool.false_eq_true, ret_ok, ret_normal, outV, rvV, rvs, ex_some, pureV, pureX, pureX.pure1', pure1, Bool.true_and,
              Bool.false_and, Bool.and_true, Bool.and_false, Option.isNone_none, AV.cells, AV.one, storable, laid, refless, refless1, List.all_cons, List.all_nil, List.length_cons,
              List.length_nil, List.getElem?_cons_zero, List.getElem?_cons_succ, List.set_cons_zero, List.set_cons_succ, List.set_nil, List.map_cons, List.map_nil, vload, loadC,
              storeC, vnil, vfaddr, vextract, callTo, List.mapM_cons, List.mapM_nil, Option.pure_def, Option.bind_eq_bind, Option.bind_some, tabOf_cons, flatT, flatE, flatC,
              and_self, and_true, true_and, implies_true, forall_const, not_true_eq_false, not_false_eq_true, false_implies, List.take_succ_cons, List.drop_succ_cons,
              List.take_zero, List.drop_zero, Bool.not_true, Bool.not_false, beq_self_eq_true, decide_true, decide_false, eq_self, Int.reduceEq, Int.reduceLE, Int.reduceLT,
              Bool.not_not, Bool.true_or, Bool.or_true, Bool.false_or, Bool.or_false, if_true, if_false, List.getElem?_nil, Kl_normal, Kl_exit, Kl_ret, fc22_0, fc22_1, fc22_2,
              fc22_3, fc22_4, fc22_5, fc22_6, fc22_7, fc22_8, cast_lit, toNat_lit, Int.reduceAdd, Int.reduceSub, Int.reduceMul, Int.reduceNeg, Int.reducePow, Nat.reducePow,
              Int.reduceToNat, Nat.reduceSub, Nat.mul_one, Int.toNat_zero, prod_eta, List.nil_append, List.cons_append, List.append_nil, vconv, vmm, vidxA, viaddrA, iaddr_sl,
              iaddr_lsl, getE, vfield, vlen, fillC, fillE, List.replicate, elemsOf, List.length_map, f2iK_eq, bits_i64, bits_i32, bits_u64, bits_u32, bits_u8, e_alloc, g_alloc,
              e_box, g_box, e_load, g_load, e_store, g_store, e_faddr, g_faddr]))
    all_goals (try simp only [*, m_laws_toTurn, Bool.and_true, Bool.true_and, Bool.and_false, Bool.false_and, Bool.or_true, Bool.true_or, Bool.or_false, Bool.false_or, Bool.not_true, Bool.not_false, Bool.false_eq_true, if_true, if_false, reduceIte, decide_true, decide_false])
    all_goals (try (simp_all; done))
  · cases h
def m_laws_toVector (x0 : (Nat × Nat × Nat)) : (Nat × Nat × Nat) := (x0.1, x0.2.1, x0.2.2)
def g_laws_toVector : List AV → Option AV
  | [.agg [.flt .f32 y0, .flt .f32 y1, .flt .f32 y2]] => some (AV.agg [(.flt .f32 (m_laws_toVector (y0, y1, y2)).1), (.flt .f32
      (m_laws_toVector (y0, y1, y2)).2.1), (.flt .f32 (m_laws_toVector (y0, y1, y2)).2.2)])
  | _ => none
def ic12 : ICode := (.seq (.reg [⟨(some 1), none, (.box 3 (.t 0))⟩, ⟨(some 2), none, (.alloc (.agg [(.flt .f32 0), (.flt .f32 0), (.flt .f32 0)]))⟩] [1, 2]) (.seq (.reg [⟨(some 3),
      none, (.alloc (.agg [(.flt .f32 0), (.flt .f32 0), (.flt .f32 0)]))⟩] [1, 2, 3]) (.seq (.reg [⟨(some 4), none, (.faddr 0 (.t 1))⟩, ⟨(some 5), none, (.load none (.t 4))⟩,
      ⟨(some 6), none, (.faddr 0 (.t 3))⟩, ⟨none, none, (.store 1 (.t 6) (.t 5))⟩] [1, 2, 3]) (.seq (.reg [⟨(some 7), none, (.faddr 1 (.t 1))⟩, ⟨(some 8), none, (.load none (.t
      7))⟩, ⟨(some 9), none, (.faddr 1 (.t 3))⟩, ⟨none, none, (.store 1 (.t 9) (.t 8))⟩] [1, 2, 3]) (.seq (.reg [⟨(some 10), none, (.faddr 2 (.t 1))⟩, ⟨(some 11), none, (.load none
      (.t 10))⟩, ⟨(some 12), none, (.faddr 2 (.t 3))⟩, ⟨none, none, (.store 1 (.t 12) (.t 11))⟩] [2, 3]) (.seq (.reg [⟨(some 13), none, (.load (some 3) (.t 3))⟩, ⟨none, none,
      (.store 3 (.t 2) (.t 13))⟩] [2]) .ret))))))
def cp12 : CP := { n := 14, kp := [[1, 2], [1, 2, 3], [1, 2, 3], [1, 2, 3], [2, 3], [2]] }
theorem fc12_0 : IntKind.wrap .i64 (-1) = (-1) := by decide
theorem fc12_1 : IntKind.wrap .i64 1 = 1 := by decide
theorem fc12_2 : IntKind.wrap .i64 11 = 11 := by decide
theorem fc12_3 : IntKind.wrap .i64 13 = 13 := by decide
theorem fc12_4 : IntKind.wrap .i64 2 = 2 := by decide
theorem fc12_5 : IntKind.wrap .i64 3 = 3 := by decide
theorem fc12_6 : IntKind.wrap .i64 5 = 5 := by decide
theorem fc12_7 : IntKind.wrap .i64 7 = 7 := by decide
theorem fc12_8 : IntKind.wrap .i64 9 = 9 := by decide
theorem s12 : ∀ vs r, g_laws_toVector vs = some r → Says Try.prog 12 vs r := by
  intro vs r h
  unfold g_laws_toVector at h
  split at h
  · rename_i y0 y1 y2
    cases h
    refine spec_of (tab := tabOf []) (cp := cp12) (ic := ic12) (rvl := [(.c 2 (some 3))]) hm tabOk_nil Try.func12 rfl rfl rfl (by kernel_rfl) rfl (Nat.le_of_ble_eq_true rfl) ?_
    show eA _ _ _ _
    unfold ic12
    simp only [
        eA_seq, eA_reg, eA_ret, eA_skip, eA_cond, eA_block, eA_exit, eCc_true, eCc_false, Kq_normal, Kq_ret, Kq_exit, Kb_normal, Kb_exit, Kb_ret, Kreg_eq, eI_nil, bindSt_some,
              bindSt_none, bindSt_ite, eR_eq, eGI_tt, eGI_ff, eGI_tf, eGI_ft, eop, vop, ev_t, ev_c, ev_f, Option.map, put_some, put_none, set_eq, setH_eq, get_eq, hp_eq, keep_cons,
              keep_nil, lk_cons, lk_nil, startSt, envOf, reduceIte, Nat.reduceEqDiff, Nat.reduceAdd, Nat.zero_add, Nat.add_zero, Nat.reduceMul, Nat.reduceLT, Nat.reduceLeDiff, bop,
              uop, intop, fltop, convop, true_or, or_true, Bool.false_eq_true, ret_ok, ret_normal, outV, rvV, rvs, ex_some, pureV, pureX, pureX.pure1', pure1, Bool.true_and,
              Bool.false_and, Bool.and_true, Bool.and_false, Option.isNone_none, AV.cells, AV.one, storable, laid, refless, refless1, List.all_cons, List.all_nil, List.length_cons,
              List.length_nil, List.getElem?_cons_zero, List.getElem?_cons_succ, List.set_cons_zero, List.set_cons_succ, List.set_nil, List.map_cons, List.map_nil, vload, loadC,
              storeC, vnil, vfaddr, vextract, callTo, List.mapM_cons, List.mapM_nil, Option.pure_def, Option.bind_eq_bind, Option.bind_some, tabOf_cons, flatT, flatE, flatC,
              and_self, and_true, true_and, implies_true, forall_const, not_true_eq_false, not_false_eq_true, false_implies, List.take_succ_cons, List.drop_succ_cons,
              List.take_zero, List.drop_zero, Bool.not_true, Bool.not_false, beq_self_eq_true, decide_true, decide_false, eq_self, Int.reduceEq, Int.reduceLE, Int.reduceLT,
              Bool.not_not, Bool.true_or, Bool.or_true, Bool.false_or, Bool.or_false, if_true, if_false, List.getElem?_nil, Kl_normal, Kl_exit, Kl_ret, fc12_0, fc12_1, fc12_2,
              fc12_3, fc12_4, fc12_5, fc12_6, fc12_7, fc12_8, cast_lit, toNat_lit, Int.reduceAdd, Int.reduceSub, Int.reduceMul, Int.reduceNeg, Int.reducePow, Nat.reducePow,
              Int.reduceToNat, Nat.reduceSub, Nat.mul_one, Int.toNat_zero, prod_eta, List.nil_append, List.cons_append, List.append_nil, vconv, vmm, vidxA, viaddrA, iaddr_sl,
              iaddr_lsl, getE, vfield, vlen, fillC, fillE, List.replicate, elemsOf, List.length_map, f2iK_eq, bits_i64, bits_i32, bits_u64, bits_u32, bits_u8, e_alloc, g_alloc,
              e_box, g_box, e_load, g_load, e_store, g_store, e_faddr, g_faddr]
    repeat' (first
      | ((first | (refine eGI_of (fun h => ?_) (fun h => ?_)) | (refine eCc_of (fun h => ?_) (fun h => ?_))) <;> (try simp only [Bool.not_eq_true', Bool.not_eq_false'] at h) <;> simp only [h,
        eA_seq, eA_reg, eA_ret, eA_skip, eA_cond, eA_block, eA_exit, eCc_true, eCc_false, Kq_normal, Kq_ret, Kq_exit, Kb_normal, Kb_exit, Kb_ret, Kreg_eq, eI_nil, bindSt_some,
              bindSt_none, bindSt_ite, eR_eq, eGI_tt, eGI_ff, eGI_tf, eGI_ft, eop, vop, ev_t, ev_c, ev_f, Option.map, put_some, put_none, set_eq, setH_eq, get_eq, hp_eq, keep_cons,
              keep_nil, lk_cons, lk_nil, startSt, envOf, reduceIte, Nat.reduceEqDiff, Nat.reduceAdd, Nat.zero_add, Nat.add_zero, Nat.reduceMul, Nat.reduceLT, Nat.reduceLeDiff, bop,
              uop, intop, fltop, convop, true_or, or_true, Bool.false_eq_true, ret_ok, ret_normal, outV, rvV, rvs, ex_some, pureV, pureX, pureX.pure1', pure1, Bool.true_and,
              Bool.false_and, Bool.and_true, Bool.and_false, Option.isNone_none, AV.cells, AV.one, storable, laid, refless, refless1, List.all_cons, List.all_nil, List.length_cons,
              List.length_nil, List.getElem?_cons_zero, List.getElem?_cons_succ, List.set_cons_zero, List.set_cons_succ, List.set_nil, List.map_cons, List.map_nil, vload, loadC,
              storeC, vnil, vfaddr, vextract, callTo, List.mapM_cons, List.mapM_nil, Option.pure_def, Option.bind_eq_bind, Option.bind_some, tabOf_cons, flatT, flatE, flatC,
              and_self, and_true, true_and, implies_true, forall_const, not_true_eq_false, not_false_eq_true, false_implies, List.take_succ_cons, List.drop_succ_cons,
              List.take_zero, List.drop_zero, Bool.not_true, Bool.not_false, beq_self_eq_true, decide_true, decide_false, eq_self, Int.reduceEq, Int.reduceLE, Int.reduceLT,
              Bool.not_not, Bool.true_or, Bool.or_true, Bool.false_or, Bool.or_false, if_true, if_false, List.getElem?_nil, Kl_normal, Kl_exit, Kl_ret, fc12_0, fc12_1, fc12_2,
              fc12_3, fc12_4, fc12_5, fc12_6, fc12_7, fc12_8, cast_lit, toNat_lit, Int.reduceAdd, Int.reduceSub, Int.reduceMul, Int.reduceNeg, Int.reducePow, Nat.reducePow,
              Int.reduceToNat, Nat.reduceSub, Nat.mul_one, Int.toNat_zero, prod_eta, List.nil_append, List.cons_append, List.append_nil, vconv, vmm, vidxA, viaddrA, iaddr_sl,
              iaddr_lsl, getE, vfield, vlen, fillC, fillE, List.replicate, elemsOf, List.length_map, f2iK_eq, bits_i64, bits_i32, bits_u64, bits_u32, bits_u8, e_alloc, g_alloc,
              e_box, g_box, e_load, g_load, e_store, g_store, e_faddr, g_faddr]))
    all_goals (try simp only [*, m_laws_toVector, Bool.and_true, Bool.true_and, Bool.and_false, Bool.false_and, Bool.or_true, Bool.true_or, Bool.or_false, Bool.false_or, Bool.not_true, Bool.not_false, Bool.false_eq_true, if_true, if_false, reduceIte, decide_true, decide_false])
    all_goals (try (simp_all; done))
  · cases h
def m_spec_l02Axis (x0 : (Nat × Nat × Nat × Nat)) : (Nat × Nat × Nat) := (x0.2.1, x0.2.2.1, x0.2.2.2)
def g_spec_l02Axis : List AV → Option AV
  | [.agg [.flt .f32 y0, .flt .f32 y1, .flt .f32 y2, .flt .f32 y3]] => some (AV.agg [(.flt .f32 (m_spec_l02Axis (y0, y1, y2, y3)).1), (.flt
      .f32 (m_spec_l02Axis (y0, y1, y2, y3)).2.1), (.flt .f32 (m_spec_l02Axis (y0, y1, y2, y3)).2.2)])
  | _ => none
def ic76 : ICode := (.seq (.reg [⟨(some 1), none, (.box 4 (.t 0))⟩, ⟨(some 2), none, (.alloc (.agg [(.flt .f32 0), (.flt .f32 0), (.flt .f32 0)]))⟩] [1, 2]) (.seq (.reg [⟨(some 3),
      none, (.faddr 1 (.t 1))⟩, ⟨(some 4), none, (.load none (.t 3))⟩, ⟨(some 5), none, (.faddr 2 (.t 1))⟩, ⟨(some 6), none, (.load none (.t 5))⟩, ⟨(some 7), none, (.faddr 3 (.t
      1))⟩, ⟨(some 8), none, (.load none (.t 7))⟩, ⟨(some 9), none, (.build [(.flt .f32 0), (.flt .f32 0), (.flt .f32 0)] [(0, 1, (.t 4)), (1, 1, (.t 6)), (2, 1, (.t 8))])⟩, ⟨none,
      none, (.store 3 (.t 2) (.t 9))⟩] [2]) .ret))
def cp76 : CP := { n := 10, kp := [[1, 2], [2]] }
theorem fc76_0 : IntKind.wrap .i64 (-1) = (-1) := by decide
theorem fc76_1 : IntKind.wrap .i64 1 = 1 := by decide
theorem fc76_2 : IntKind.wrap .i64 11 = 11 := by decide
theorem fc76_3 : IntKind.wrap .i64 13 = 13 := by decide
theorem fc76_4 : IntKind.wrap .i64 2 = 2 := by decide
theorem fc76_5 : IntKind.wrap .i64 3 = 3 := by decide
theorem fc76_6 : IntKind.wrap .i64 5 = 5 := by decide
theorem fc76_7 : IntKind.wrap .i64 7 = 7 := by decide
theorem fc76_8 : IntKind.wrap .i64 9 = 9 := by decide
theorem s76 : ∀ vs r, g_spec_l02Axis vs = some r → Says Try.prog 76 vs r := by
  intro vs r h
  unfold g_spec_l02Axis at h
  split at h
  · rename_i y0 y1 y2 y3
    cases h
    refine spec_of (tab := tabOf []) (cp := cp76) (ic := ic76) (rvl := [(.c 2 (some 3))]) hm tabOk_nil Try.func76 rfl rfl rfl (by kernel_rfl) rfl (Nat.le_of_ble_eq_true rfl) ?_
    show eA _ _ _ _
    unfold ic76
    simp only [
        eA_seq, eA_reg, eA_ret, eA_skip, eA_cond, eA_block, eA_exit, eCc_true, eCc_false, Kq_normal, Kq_ret, Kq_exit, Kb_normal, Kb_exit, Kb_ret, Kreg_eq, eI_nil, bindSt_some,
              bindSt_none, bindSt_ite, eR_eq, eGI_tt, eGI_ff, eGI_tf, eGI_ft, eop, vop, ev_t, ev_c, ev_f, Option.map, put_some, put_none, set_eq, setH_eq, get_eq, hp_eq, keep_cons,
              keep_nil, lk_cons, lk_nil, startSt, envOf, reduceIte, Nat.reduceEqDiff, Nat.reduceAdd, Nat.zero_add, Nat.add_zero, Nat.reduceMul, Nat.reduceLT, Nat.reduceLeDiff, bop,
              uop, intop, fltop, convop, true_or, or_true, Bool.false_eq_true, ret_ok, ret_normal, outV, rvV, rvs, ex_some, pureV, pureX, pureX.pure1', pure1, Bool.true_and,
              Bool.false_and, Bool.and_true, Bool.and_false, Option.isNone_none, AV.cells, AV.one, storable, laid, refless, refless1, List.all_cons, List.all_nil, List.length_cons,
              List.length_nil, List.getElem?_cons_zero, List.getElem?_cons_succ, List.set_cons_zero, List.set_cons_succ, List.set_nil, List.map_cons, List.map_nil, vload, loadC,
              storeC, vnil, vfaddr, vextract, callTo, List.mapM_cons, List.mapM_nil, Option.pure_def, Option.bind_eq_bind, Option.bind_some, tabOf_cons, flatT, flatE, flatC,
              and_self, and_true, true_and, implies_true, forall_const, not_true_eq_false, not_false_eq_true, false_implies, List.take_succ_cons, List.drop_succ_cons,
              List.take_zero, List.drop_zero, Bool.not_true, Bool.not_false, beq_self_eq_true, decide_true, decide_false, eq_self, Int.reduceEq, Int.reduceLE, Int.reduceLT,
              Bool.not_not, Bool.true_or, Bool.or_true, Bool.false_or, Bool.or_false, if_true, if_false, List.getElem?_nil, Kl_normal, Kl_exit, Kl_ret, fc76_0, fc76_1, fc76_2,
              fc76_3, fc76_4, fc76_5, fc76_6, fc76_7, fc76_8, cast_lit, toNat_lit, Int.reduceAdd, Int.reduceSub, Int.reduceMul, Int.reduceNeg, Int.reducePow, Nat.reducePow,
              Int.reduceToNat, Nat.reduceSub, Nat.mul_one, Int.toNat_zero, prod_eta, List.nil_append, List.cons_append, List.append_nil, vconv, vmm, vidxA, viaddrA, iaddr_sl,
              iaddr_lsl, getE, vfield, vlen, fillC, fillE, List.replicate, elemsOf, List.length_map, f2iK_eq, bits_i64, bits_i32, bits_u64, bits_u32, bits_u8, e_alloc, g_alloc,
              e_box, g_box, e_build, g_build, e_load, g_load, e_store, g_store, e_faddr, g_faddr]
    repeat' (first
      | ((first | (refine eGI_of (fun h => ?_) (fun h => ?_)) | (refine eCc_of (fun h => ?_) (fun h => ?_))) <;> (try simp only [Bool.not_eq_true', Bool.not_eq_false'] at h) <;> simp only [h,
        eA_seq, eA_reg, eA_ret, eA_skip, eA_cond, eA_block, eA_exit, eCc_true, eCc_false, Kq_normal, Kq_ret, Kq_exit, Kb_normal, Kb_exit, Kb_ret, Kreg_eq, eI_nil, bindSt_some,
              bindSt_none, bindSt_ite, eR_eq, eGI_tt, eGI_ff, eGI_tf, eGI_ft, eop, vop, ev_t, ev_c, ev_f, Option.map, put_some, put_none, set_eq, setH_eq, get_eq, hp_eq, keep_cons,
              keep_nil, lk_cons, lk_nil, startSt, envOf, reduceIte, Nat.reduceEqDiff, Nat.reduceAdd, Nat.zero_add, Nat.add_zero, Nat.reduceMul, Nat.reduceLT, Nat.reduceLeDiff, bop,
              uop, intop, fltop, convop, true_or, or_true, Bool.false_eq_true, ret_ok, ret_normal, outV, rvV, rvs, ex_some, pureV, pureX, pureX.pure1', pure1, Bool.true_and,
              Bool.false_and, Bool.and_true, Bool.and_false, Option.isNone_none, AV.cells, AV.one, storable, laid, refless, refless1, List.all_cons, List.all_nil, List.length_cons,
              List.length_nil, List.getElem?_cons_zero, List.getElem?_cons_succ, List.set_cons_zero, List.set_cons_succ, List.set_nil, List.map_cons, List.map_nil, vload, loadC,
              storeC, vnil, vfaddr, vextract, callTo, List.mapM_cons, List.mapM_nil, Option.pure_def, Option.bind_eq_bind, Option.bind_some, tabOf_cons, flatT, flatE, flatC,
              and_self, and_true, true_and, implies_true, forall_const, not_true_eq_false, not_false_eq_true, false_implies, List.take_succ_cons, List.drop_succ_cons,
              List.take_zero, List.drop_zero, Bool.not_true, Bool.not_false, beq_self_eq_true, decide_true, decide_false, eq_self, Int.reduceEq, Int.reduceLE, Int.reduceLT,
              Bool.not_not, Bool.true_or, Bool.or_true, Bool.false_or, Bool.or_false, if_true, if_false, List.getElem?_nil, Kl_normal, Kl_exit, Kl_ret, fc76_0, fc76_1, fc76_2,
              fc76_3, fc76_4, fc76_5, fc76_6, fc76_7, fc76_8, cast_lit, toNat_lit, Int.reduceAdd, Int.reduceSub, Int.reduceMul, Int.reduceNeg, Int.reducePow, Nat.reducePow,
              Int.reduceToNat, Nat.reduceSub, Nat.mul_one, Int.toNat_zero, prod_eta, List.nil_append, List.cons_append, List.append_nil, vconv, vmm, vidxA, viaddrA, iaddr_sl,
              iaddr_lsl, getE, vfield, vlen, fillC, fillE, List.replicate, elemsOf, List.length_map, f2iK_eq, bits_i64, bits_i32, bits_u64, bits_u32, bits_u8, e_alloc, g_alloc,
              e_box, g_box, e_build, g_build, e_load, g_load, e_store, g_store, e_faddr, g_faddr]))
    all_goals (try simp only [*, m_spec_l02Axis, Bool.and_true, Bool.true_and, Bool.and_false, Bool.false_and, Bool.or_true, Bool.true_or, Bool.or_false, Bool.false_or, Bool.not_true, Bool.not_false, Bool.false_eq_true, if_true, if_false, reduceIte, decide_true, decide_false])
    all_goals (try (simp_all; done))
  · cases h
def m_spec_l01Inner (x0 : (Nat × Nat × Nat)) (x1 : (Nat × Nat × Nat)) : Nat := (fadd .f32 (fadd .f32 (fmul .f32 x0.1 x1.1) (fmul .f32 x0.2.1 x1.2.1)) (fmul .f32 x0.2.2 x1.2.2))
def g_spec_l01Inner : List AV → Option AV
  | [.agg [.flt .f32 y0, .flt .f32 y1, .flt .f32 y2], .agg [.flt .f32 y3, .flt .f32 y4, .flt .f32 y5]] => some (.flt .f32 (m_spec_l01Inner
      (y0, y1, y2) (y3, y4, y5)))
  | _ => none
def ic40 : ICode := (.seq (.reg [⟨(some 2), none, (.box 3 (.t 0))⟩, ⟨(some 3), none, (.box 3 (.t 1))⟩, ⟨(some 4), none, (.mov (.c (.flt .f32 0)))⟩] [2, 3]) (.seq (.reg [⟨(some 5),
      none, (.faddr 0 (.t 2))⟩, ⟨(some 6), none, (.load none (.t 5))⟩, ⟨(some 7), none, (.faddr 0 (.t 3))⟩, ⟨(some 8), none, (.load none (.t 7))⟩, ⟨(some 9), none, (.bin .mul false
      (.t 6) (.t 8))⟩, ⟨(some 10), none, (.faddr 1 (.t 2))⟩, ⟨(some 11), none, (.load none (.t 10))⟩, ⟨(some 12), none, (.faddr 1 (.t 3))⟩, ⟨(some 13), none, (.load none (.t 12))⟩,
      ⟨(some 14), none, (.bin .mul false (.t 11) (.t 13))⟩, ⟨(some 15), none, (.bin .add false (.t 9) (.t 14))⟩, ⟨(some 16), none, (.faddr 2 (.t 2))⟩, ⟨(some 17), none, (.load none
      (.t 16))⟩, ⟨(some 18), none, (.faddr 2 (.t 3))⟩, ⟨(some 19), none, (.load none (.t 18))⟩, ⟨(some 20), none, (.bin .mul false (.t 17) (.t 19))⟩, ⟨(some 21), none, (.bin .add
      false (.t 15) (.t 20))⟩, ⟨(some 4), none, (.mov (.t 21))⟩] [4]) .ret))
def cp40 : CP := { n := 22, kp := [[2, 3], [4]] }
theorem fc40_0 : IntKind.wrap .i64 (-1) = (-1) := by decide
theorem fc40_1 : IntKind.wrap .i64 1 = 1 := by decide
theorem fc40_2 : IntKind.wrap .i64 11 = 11 := by decide
theorem fc40_3 : IntKind.wrap .i64 13 = 13 := by decide
theorem fc40_4 : IntKind.wrap .i64 2 = 2 := by decide
theorem fc40_5 : IntKind.wrap .i64 3 = 3 := by decide
theorem fc40_6 : IntKind.wrap .i64 5 = 5 := by decide
theorem fc40_7 : IntKind.wrap .i64 7 = 7 := by decide
theorem fc40_8 : IntKind.wrap .i64 9 = 9 := by decide
theorem s40 : ∀ vs r, g_spec_l01Inner vs = some r → Says Try.prog 40 vs r := by
  intro vs r h
  unfold g_spec_l01Inner at h
  split at h
  · rename_i y0 y1 y2 y3 y4 y5
    cases h
    refine spec_of (tab := tabOf []) (cp := cp40) (ic := ic40) (rvl := [(.t 4)]) hm tabOk_nil Try.func40 rfl rfl rfl (by kernel_rfl) rfl (Nat.le_of_ble_eq_true rfl) ?_
    show eA _ _ _ _
    unfold ic40
    simp only [
        eA_seq, eA_reg, eA_ret, eA_skip, eA_cond, eA_block, eA_exit, eCc_true, eCc_false, Kq_normal, Kq_ret, Kq_exit, Kb_normal, Kb_exit, Kb_ret, Kreg_eq, eI_nil, bindSt_some,
              bindSt_none, bindSt_ite, eR_eq, eGI_tt, eGI_ff, eGI_tf, eGI_ft, eop, vop, ev_t, ev_c, ev_f, Option.map, put_some, put_none, set_eq, setH_eq, get_eq, hp_eq, keep_cons,
              keep_nil, lk_cons, lk_nil, startSt, envOf, reduceIte, Nat.reduceEqDiff, Nat.reduceAdd, Nat.zero_add, Nat.add_zero, Nat.reduceMul, Nat.reduceLT, Nat.reduceLeDiff, bop,
              uop, intop, fltop, convop, true_or, or_true, Bool.false_eq_true, ret_ok, ret_normal, outV, rvV, rvs, ex_some, pureV, pureX, pureX.pure1', pure1, Bool.true_and,
              Bool.false_and, Bool.and_true, Bool.and_false, Option.isNone_none, AV.cells, AV.one, storable, laid, refless, refless1, List.all_cons, List.all_nil, List.length_cons,
              List.length_nil, List.getElem?_cons_zero, List.getElem?_cons_succ, List.set_cons_zero, List.set_cons_succ, List.set_nil, List.map_cons, List.map_nil, vload, loadC,
              storeC, vnil, vfaddr, vextract, callTo, List.mapM_cons, List.mapM_nil, Option.pure_def, Option.bind_eq_bind, Option.bind_some, tabOf_cons, flatT, flatE, flatC,
              and_self, and_true, true_and, implies_true, forall_const, not_true_eq_false, not_false_eq_true, false_implies, List.take_succ_cons, List.drop_succ_cons,
              List.take_zero, List.drop_zero, Bool.not_true, Bool.not_false, beq_self_eq_true, decide_true, decide_false, eq_self, Int.reduceEq, Int.reduceLE, Int.reduceLT,
              Bool.not_not, Bool.true_or, Bool.or_true, Bool.false_or, Bool.or_false, if_true, if_false, List.getElem?_nil, Kl_normal, Kl_exit, Kl_ret, fc40_0, fc40_1, fc40_2,
              fc40_3, fc40_4, fc40_5, fc40_6, fc40_7, fc40_8, cast_lit, toNat_lit, Int.reduceAdd, Int.reduceSub, Int.reduceMul, Int.reduceNeg, Int.reducePow, Nat.reducePow,
              Int.reduceToNat, Nat.reduceSub, Nat.mul_one, Int.toNat_zero, prod_eta, List.nil_append, List.cons_append, List.append_nil, vconv, vmm, vidxA, viaddrA, iaddr_sl,
              iaddr_lsl, getE, vfield, vlen, fillC, fillE, List.replicate, elemsOf, List.length_map, f2iK_eq, bits_i64, bits_i32, bits_u64, bits_u32, bits_u8, e_mov, g_mov, e_box,
              g_box, e_load, g_load, e_bin, g_bin, e_faddr, g_faddr]
    repeat' (first
      | ((first | (refine eGI_of (fun h => ?_) (fun h => ?_)) | (refine eCc_of (fun h => ?_) (fun h => ?_))) <;> (try simp only [Bool.not_eq_true', Bool.not_eq_false'] at h) <;> simp only [h,
        eA_seq, eA_reg, eA_ret, eA_skip, eA_cond, eA_block, eA_exit, eCc_true, eCc_false, Kq_normal, Kq_ret, Kq_exit, Kb_normal, Kb_exit, Kb_ret, Kreg_eq, eI_nil, bindSt_some,
              bindSt_none, bindSt_ite, eR_eq, eGI_tt, eGI_ff, eGI_tf, eGI_ft, eop, vop, ev_t, ev_c, ev_f, Option.map, put_some, put_none, set_eq, setH_eq, get_eq, hp_eq, keep_cons,
              keep_nil, lk_cons, lk_nil, startSt, envOf, reduceIte, Nat.reduceEqDiff, Nat.reduceAdd, Nat.zero_add, Nat.add_zero, Nat.reduceMul, Nat.reduceLT, Nat.reduceLeDiff, bop,
              uop, intop, fltop, convop, true_or, or_true, Bool.false_eq_true, ret_ok, ret_normal, outV, rvV, rvs, ex_some, pureV, pureX, pureX.pure1', pure1, Bool.true_and,
              Bool.false_and, Bool.and_true, Bool.and_false, Option.isNone_none, AV.cells, AV.one, storable, laid, refless, refless1, List.all_cons, List.all_nil, List.length_cons,
              List.length_nil, List.getElem?_cons_zero, List.getElem?_cons_succ, List.set_cons_zero, List.set_cons_succ, List.set_nil, List.map_cons, List.map_nil, vload, loadC,
              storeC, vnil, vfaddr, vextract, callTo, List.mapM_cons, List.mapM_nil, Option.pure_def, Option.bind_eq_bind, Option.bind_some, tabOf_cons, flatT, flatE, flatC,
              and_self, and_true, true_and, implies_true, forall_const, not_true_eq_false, not_false_eq_true, false_implies, List.take_succ_cons, List.drop_succ_cons,
              List.take_zero, List.drop_zero, Bool.not_true, Bool.not_false, beq_self_eq_true, decide_true, decide_false, eq_self, Int.reduceEq, Int.reduceLE, Int.reduceLT,
              Bool.not_not, Bool.true_or, Bool.or_true, Bool.false_or, Bool.or_false, if_true, if_false, List.getElem?_nil, Kl_normal, Kl_exit, Kl_ret, fc40_0, fc40_1, fc40_2,
              fc40_3, fc40_4, fc40_5, fc40_6, fc40_7, fc40_8, cast_lit, toNat_lit, Int.reduceAdd, Int.reduceSub, Int.reduceMul, Int.reduceNeg, Int.reducePow, Nat.reducePow,
              Int.reduceToNat, Nat.reduceSub, Nat.mul_one, Int.toNat_zero, prod_eta, List.nil_append, List.cons_append, List.append_nil, vconv, vmm, vidxA, viaddrA, iaddr_sl,
              iaddr_lsl, getE, vfield, vlen, fillC, fillE, List.replicate, elemsOf, List.length_map, f2iK_eq, bits_i64, bits_i32, bits_u64, bits_u32, bits_u8, e_mov, g_mov, e_box,
              g_box, e_load, g_load, e_bin, g_bin, e_faddr, g_faddr]))
    all_goals (try simp only [*, m_spec_l01Inner, Bool.and_true, Bool.true_and, Bool.and_false, Bool.false_and, Bool.or_true, Bool.true_or, Bool.or_false, Bool.false_or, Bool.not_true, Bool.not_false, Bool.false_eq_true, if_true, if_false, reduceIte, decide_true, decide_false])
    all_goals (try (simp_all; done))
  · cases h
theorem s92 : ∀ vs r, g_f64from vs = some r → Says Try.prog 92 vs r := t_f64from Try.func92 (by kernel_rfl) rfl (by kernel_rfl) (by kernel_rfl)
def m_math_NaN  : Nat := (cn .f64 (Int.toNat 9221120237041090561))
def g_math_NaN : List AV → Option AV
  | [] => some (.flt .f64 (m_math_NaN))
  | _ => none
def ic73 : ICode := (.seq (.reg [⟨(some 0), none, (.mov (.c (.flt .f64 0)))⟩] []) (.seq (.reg [⟨(some 1), none, (.call (.fn 92) [(.c (.int .u64 9221120237041090561))] [])⟩, ⟨(some
      0), none, (.mov (.t 1))⟩] [0]) .ret))
def cp73 : CP := { n := 2, kp := [[], [0]] }
theorem fc73_0 : IntKind.wrap .i64 (-1) = (-1) := by decide
theorem fc73_1 : IntKind.wrap .i64 1 = 1 := by decide
theorem fc73_2 : IntKind.wrap .i64 11 = 11 := by decide
theorem fc73_3 : IntKind.wrap .i64 13 = 13 := by decide
theorem fc73_4 : IntKind.wrap .i64 2 = 2 := by decide
theorem fc73_5 : IntKind.wrap .i64 3 = 3 := by decide
theorem fc73_6 : IntKind.wrap .i64 5 = 5 := by decide
theorem fc73_7 : IntKind.wrap .i64 7 = 7 := by decide
theorem fc73_8 : IntKind.wrap .i64 9 = 9 := by decide
theorem s73 : ∀ vs r, g_math_NaN vs = some r → Says Try.prog 73 vs r := by
  intro vs r h
  unfold g_math_NaN at h
  split at h
  · cases h
    refine spec_of (tab := tabOf [(92, g_f64from)]) (cp := cp73) (ic := ic73) (rvl := [(.t 0)]) hm (tabOk_cons s92 tabOk_nil) Try.func73 rfl rfl rfl (by kernel_rfl) rfl (Nat.le_of_ble_eq_true rfl) ?_
    show eA _ _ _ _
    unfold ic73
    simp only [
        eA_seq, eA_reg, eA_ret, eA_skip, eA_cond, eA_block, eA_exit, eCc_true, eCc_false, Kq_normal, Kq_ret, Kq_exit, Kb_normal, Kb_exit, Kb_ret, Kreg_eq, eI_nil, bindSt_some,
              bindSt_none, bindSt_ite, eR_eq, eGI_tt, eGI_ff, eGI_tf, eGI_ft, eop, vop, ev_t, ev_c, ev_f, Option.map, put_some, put_none, set_eq, setH_eq, get_eq, hp_eq, keep_cons,
              keep_nil, lk_cons, lk_nil, startSt, envOf, reduceIte, Nat.reduceEqDiff, Nat.reduceAdd, Nat.zero_add, Nat.add_zero, Nat.reduceMul, Nat.reduceLT, Nat.reduceLeDiff, bop,
              uop, intop, fltop, convop, true_or, or_true, Bool.false_eq_true, ret_ok, ret_normal, outV, rvV, rvs, ex_some, pureV, pureX, pureX.pure1', pure1, Bool.true_and,
              Bool.false_and, Bool.and_true, Bool.and_false, Option.isNone_none, AV.cells, AV.one, storable, laid, refless, refless1, List.all_cons, List.all_nil, List.length_cons,
              List.length_nil, List.getElem?_cons_zero, List.getElem?_cons_succ, List.set_cons_zero, List.set_cons_succ, List.set_nil, List.map_cons, List.map_nil, vload, loadC,
              storeC, vnil, vfaddr, vextract, callTo, List.mapM_cons, List.mapM_nil, Option.pure_def, Option.bind_eq_bind, Option.bind_some, tabOf_cons, flatT, flatE, flatC,
              and_self, and_true, true_and, implies_true, forall_const, not_true_eq_false, not_false_eq_true, false_implies, List.take_succ_cons, List.drop_succ_cons,
              List.take_zero, List.drop_zero, Bool.not_true, Bool.not_false, beq_self_eq_true, decide_true, decide_false, eq_self, Int.reduceEq, Int.reduceLE, Int.reduceLT,
              Bool.not_not, Bool.true_or, Bool.or_true, Bool.false_or, Bool.or_false, if_true, if_false, List.getElem?_nil, Kl_normal, Kl_exit, Kl_ret, fc73_0, fc73_1, fc73_2,
              fc73_3, fc73_4, fc73_5, fc73_6, fc73_7, fc73_8, cast_lit, toNat_lit, Int.reduceAdd, Int.reduceSub, Int.reduceMul, Int.reduceNeg, Int.reducePow, Nat.reducePow,
              Int.reduceToNat, Nat.reduceSub, Nat.mul_one, Int.toNat_zero, prod_eta, List.nil_append, List.cons_append, List.append_nil, vconv, vmm, vidxA, viaddrA, iaddr_sl,
              iaddr_lsl, getE, vfield, vlen, fillC, fillE, List.replicate, elemsOf, List.length_map, f2iK_eq, bits_i64, bits_i32, bits_u64, bits_u32, bits_u8, e_mov, g_mov, e_call,
              g_call, g_f64from]
    repeat' (first
      | ((first | (refine eGI_of (fun h => ?_) (fun h => ?_)) | (refine eCc_of (fun h => ?_) (fun h => ?_))) <;> (try simp only [Bool.not_eq_true', Bool.not_eq_false'] at h) <;> simp only [h,
        eA_seq, eA_reg, eA_ret, eA_skip, eA_cond, eA_block, eA_exit, eCc_true, eCc_false, Kq_normal, Kq_ret, Kq_exit, Kb_normal, Kb_exit, Kb_ret, Kreg_eq, eI_nil, bindSt_some,
              bindSt_none, bindSt_ite, eR_eq, eGI_tt, eGI_ff, eGI_tf, eGI_ft, eop, vop, ev_t, ev_c, ev_f, Option.map, put_some, put_none, set_eq, setH_eq, get_eq, hp_eq, keep_cons,
              keep_nil, lk_cons, lk_nil, startSt, envOf, reduceIte, Nat.reduceEqDiff, Nat.reduceAdd, Nat.zero_add, Nat.add_zero, Nat.reduceMul, Nat.reduceLT, Nat.reduceLeDiff, bop,
              uop, intop, fltop, convop, true_or, or_true, Bool.false_eq_true, ret_ok, ret_normal, outV, rvV, rvs, ex_some, pureV, pureX, pureX.pure1', pure1, Bool.true_and,
              Bool.false_and, Bool.and_true, Bool.and_false, Option.isNone_none, AV.cells, AV.one, storable, laid, refless, refless1, List.all_cons, List.all_nil, List.length_cons,
              List.length_nil, List.getElem?_cons_zero, List.getElem?_cons_succ, List.set_cons_zero, List.set_cons_succ, List.set_nil, List.map_cons, List.map_nil, vload, loadC,
              storeC, vnil, vfaddr, vextract, callTo, List.mapM_cons, List.mapM_nil, Option.pure_def, Option.bind_eq_bind, Option.bind_some, tabOf_cons, flatT, flatE, flatC,
              and_self, and_true, true_and, implies_true, forall_const, not_true_eq_false, not_false_eq_true, false_implies, List.take_succ_cons, List.drop_succ_cons,
              List.take_zero, List.drop_zero, Bool.not_true, Bool.not_false, beq_self_eq_true, decide_true, decide_false, eq_self, Int.reduceEq, Int.reduceLE, Int.reduceLT,
              Bool.not_not, Bool.true_or, Bool.or_true, Bool.false_or, Bool.or_false, if_true, if_false, List.getElem?_nil, Kl_normal, Kl_exit, Kl_ret, fc73_0, fc73_1, fc73_2,
              fc73_3, fc73_4, fc73_5, fc73_6, fc73_7, fc73_8, cast_lit, toNat_lit, Int.reduceAdd, Int.reduceSub, Int.reduceMul, Int.reduceNeg, Int.reducePow, Nat.reducePow,
              Int.reduceToNat, Nat.reduceSub, Nat.mul_one, Int.toNat_zero, prod_eta, List.nil_append, List.cons_append, List.append_nil, vconv, vmm, vidxA, viaddrA, iaddr_sl,
              iaddr_lsl, getE, vfield, vlen, fillC, fillE, List.replicate, elemsOf, List.length_map, f2iK_eq, bits_i64, bits_i32, bits_u64, bits_u32, bits_u8, e_mov, g_mov, e_call,
              g_call, g_f64from]))
    all_goals (try simp only [*, m_math_NaN, Bool.and_true, Bool.true_and, Bool.and_false, Bool.false_and, Bool.or_true, Bool.true_or, Bool.or_false, Bool.false_or, Bool.not_true, Bool.not_false, Bool.false_eq_true, if_true, if_false, reduceIte, decide_true, decide_false])
    all_goals (try (simp_all; done))
  · cases h
theorem s93 : ∀ vs r, g_f64bits vs = some r → Says Try.prog 93 vs r := t_f64bits Try.func93 (by kernel_rfl) rfl (by kernel_rfl) (by kernel_rfl)
def ic71 : ICode := (.seq (.reg [⟨(some 2), none, (.mov (.c (.flt .f64 0)))⟩] [0]) (.seq (.reg [⟨(some 3), none, (.mov (.t 0))⟩, ⟨(some 4), none, (.call (.fn 93) [(.t 3)] [])⟩,
      ⟨(some 5), none, (.bin .andNot false (.t 4) (.c (.int .u64 9223372036854775808)))⟩, ⟨(some 6), none, (.call (.fn 92) [(.t 5)] [])⟩, ⟨(some 2), none, (.mov (.t 6))⟩] [2])
      .ret))
def cp71 : CP := { n := 7, kp := [[0], [2]] }
theorem s71 : ∀ vs r, g_abs vs = some r → Says Try.prog 71 vs r := by
  intro vs r h
  unfold g_abs at h
  split at h
  · rename_i c
    cases h
    refine says_raw1 fun b hb => ?_
    have hlt : b < 2 ^ 64 := hb.lt
    rw [fabs_fv hb]
    refine spec_of (tab := tabOf [(92, g_f64from), (93, g_f64bits)]) (cp := cp71) (ic := ic71) (rvl := [(.t 2)]) hm (tabOk_cons s92 (tabOk_cons s93 tabOk_nil)) Try.func71 rfl rfl rfl (by kernel_rfl) rfl (Nat.le_of_ble_eq_true rfl) ?_
    show eA _ _ _ _
    unfold ic71
    simp only [
      if_pos hlt, eA_seq, eA_reg, eA_ret, eA_skip, eA_cond, eA_block, eA_exit, eCc_true, eCc_false, Kq_normal, Kq_ret, Kq_exit, Kb_normal, Kb_exit, Kb_ret, Kreg_eq, eI_nil,
            bindSt_some, bindSt_none, bindSt_ite, eR_eq, eGI_tt, eGI_ff, eGI_tf, eGI_ft, eop, vop, ev_t, ev_c, ev_f, Option.map, put_some, put_none, set_eq, setH_eq, get_eq, hp_eq,
            keep_cons, keep_nil, lk_cons, lk_nil, startSt, envOf, reduceIte, Nat.reduceEqDiff, Nat.reduceAdd, Nat.zero_add, Nat.add_zero, Nat.reduceMul, Nat.reduceLT,
            Nat.reduceLeDiff, bop, uop, intop, fltop, convop, true_or, or_true, Bool.false_eq_true, ret_ok, ret_normal, outV, rvV, rvs, ex_some, pureV, pureX, pureX.pure1', pure1,
            Bool.true_and, Bool.false_and, Bool.and_true, Bool.and_false, Option.isNone_none, AV.cells, AV.one, storable, laid, refless, refless1, List.all_cons, List.all_nil,
            List.length_cons, List.length_nil, List.getElem?_cons_zero, List.getElem?_cons_succ, List.set_cons_zero, List.set_cons_succ, List.set_nil, List.map_cons, List.map_nil,
            vload, loadC, storeC, vnil, vfaddr, vextract, callTo, List.mapM_cons, List.mapM_nil, Option.pure_def, Option.bind_eq_bind, Option.bind_some, tabOf_cons, flatT, flatE,
            flatC, and_self, and_true, true_and, implies_true, forall_const, not_true_eq_false, not_false_eq_true, false_implies, List.take_succ_cons, List.drop_succ_cons,
            List.take_zero, List.drop_zero, Bool.not_true, Bool.not_false, beq_self_eq_true, decide_true, decide_false, eq_self, Int.reduceEq, Int.reduceLE, Int.reduceLT,
            Bool.not_not, Bool.true_or, Bool.or_true, Bool.false_or, Bool.or_false, if_true, if_false, List.getElem?_nil, e_mov, g_mov, e_bin, g_bin, e_call, g_call, g_f64bits,
            g_f64from]
  · cases h
theorem s72 : ∀ vs r, g_sqrt vs = some r → Says Try.prog 72 vs r := t_sqrt Try.func72 (by kernel_rfl) rfl (by kernel_rfl) (by kernel_rfl)
def m_math_Sqrt (x0 : Nat) : Nat := (fsqrt x0)
def g_math_Sqrt : List AV → Option AV
  | [.flt .f64 y0] => some (.flt .f64 (m_math_Sqrt y0))
  | _ => none
def ic53 : ICode := (.seq (.reg [⟨(some 2), none, (.mov (.c (.flt .f64 0)))⟩] [0]) (.seq (.reg [⟨(some 3), none, (.mov (.t 0))⟩, ⟨(some 4), none, (.call (.fn 72) [(.t 3)] [])⟩,
      ⟨(some 2), none, (.mov (.t 4))⟩] [2]) .ret))
def cp53 : CP := { n := 5, kp := [[0], [2]] }
theorem fc53_0 : IntKind.wrap .i64 (-1) = (-1) := by decide
theorem fc53_1 : IntKind.wrap .i64 1 = 1 := by decide
theorem fc53_2 : IntKind.wrap .i64 11 = 11 := by decide
theorem fc53_3 : IntKind.wrap .i64 13 = 13 := by decide
theorem fc53_4 : IntKind.wrap .i64 2 = 2 := by decide
theorem fc53_5 : IntKind.wrap .i64 3 = 3 := by decide
theorem fc53_6 : IntKind.wrap .i64 5 = 5 := by decide
theorem fc53_7 : IntKind.wrap .i64 7 = 7 := by decide
theorem fc53_8 : IntKind.wrap .i64 9 = 9 := by decide
theorem s53 : ∀ vs r, g_math_Sqrt vs = some r → Says Try.prog 53 vs r := by
  intro vs r h
  unfold g_math_Sqrt at h
  split at h
  · rename_i y0
    cases h
    refine spec_of (tab := tabOf [(72, g_sqrt)]) (cp := cp53) (ic := ic53) (rvl := [(.t 2)]) hm (tabOk_cons s72 tabOk_nil) Try.func53 rfl rfl rfl (by kernel_rfl) rfl (Nat.le_of_ble_eq_true rfl) ?_
    show eA _ _ _ _
    unfold ic53
    simp only [
        eA_seq, eA_reg, eA_ret, eA_skip, eA_cond, eA_block, eA_exit, eCc_true, eCc_false, Kq_normal, Kq_ret, Kq_exit, Kb_normal, Kb_exit, Kb_ret, Kreg_eq, eI_nil, bindSt_some,
              bindSt_none, bindSt_ite, eR_eq, eGI_tt, eGI_ff, eGI_tf, eGI_ft, eop, vop, ev_t, ev_c, ev_f, Option.map, put_some, put_none, set_eq, setH_eq, get_eq, hp_eq, keep_cons,
              keep_nil, lk_cons, lk_nil, startSt, envOf, reduceIte, Nat.reduceEqDiff, Nat.reduceAdd, Nat.zero_add, Nat.add_zero, Nat.reduceMul, Nat.reduceLT, Nat.reduceLeDiff, bop,
              uop, intop, fltop, convop, true_or, or_true, Bool.false_eq_true, ret_ok, ret_normal, outV, rvV, rvs, ex_some, pureV, pureX, pureX.pure1', pure1, Bool.true_and,
              Bool.false_and, Bool.and_true, Bool.and_false, Option.isNone_none, AV.cells, AV.one, storable, laid, refless, refless1, List.all_cons, List.all_nil, List.length_cons,
              List.length_nil, List.getElem?_cons_zero, List.getElem?_cons_succ, List.set_cons_zero, List.set_cons_succ, List.set_nil, List.map_cons, List.map_nil, vload, loadC,
              storeC, vnil, vfaddr, vextract, callTo, List.mapM_cons, List.mapM_nil, Option.pure_def, Option.bind_eq_bind, Option.bind_some, tabOf_cons, flatT, flatE, flatC,
              and_self, and_true, true_and, implies_true, forall_const, not_true_eq_false, not_false_eq_true, false_implies, List.take_succ_cons, List.drop_succ_cons,
              List.take_zero, List.drop_zero, Bool.not_true, Bool.not_false, beq_self_eq_true, decide_true, decide_false, eq_self, Int.reduceEq, Int.reduceLE, Int.reduceLT,
              Bool.not_not, Bool.true_or, Bool.or_true, Bool.false_or, Bool.or_false, if_true, if_false, List.getElem?_nil, Kl_normal, Kl_exit, Kl_ret, fc53_0, fc53_1, fc53_2,
              fc53_3, fc53_4, fc53_5, fc53_6, fc53_7, fc53_8, cast_lit, toNat_lit, Int.reduceAdd, Int.reduceSub, Int.reduceMul, Int.reduceNeg, Int.reducePow, Nat.reducePow,
              Int.reduceToNat, Nat.reduceSub, Nat.mul_one, Int.toNat_zero, prod_eta, List.nil_append, List.cons_append, List.append_nil, vconv, vmm, vidxA, viaddrA, iaddr_sl,
              iaddr_lsl, getE, vfield, vlen, fillC, fillE, List.replicate, elemsOf, List.length_map, f2iK_eq, bits_i64, bits_i32, bits_u64, bits_u32, bits_u8, e_mov, g_mov, e_call,
              g_call, g_sqrt]
    repeat' (first
      | ((first | (refine eGI_of (fun h => ?_) (fun h => ?_)) | (refine eCc_of (fun h => ?_) (fun h => ?_))) <;> (try simp only [Bool.not_eq_true', Bool.not_eq_false'] at h) <;> simp only [h,
        eA_seq, eA_reg, eA_ret, eA_skip, eA_cond, eA_block, eA_exit, eCc_true, eCc_false, Kq_normal, Kq_ret, Kq_exit, Kb_normal, Kb_exit, Kb_ret, Kreg_eq, eI_nil, bindSt_some,
              bindSt_none, bindSt_ite, eR_eq, eGI_tt, eGI_ff, eGI_tf, eGI_ft, eop, vop, ev_t, ev_c, ev_f, Option.map, put_some, put_none, set_eq, setH_eq, get_eq, hp_eq, keep_cons,
              keep_nil, lk_cons, lk_nil, startSt, envOf, reduceIte, Nat.reduceEqDiff, Nat.reduceAdd, Nat.zero_add, Nat.add_zero, Nat.reduceMul, Nat.reduceLT, Nat.reduceLeDiff, bop,
              uop, intop, fltop, convop, true_or, or_true, Bool.false_eq_true, ret_ok, ret_normal, outV, rvV, rvs, ex_some, pureV, pureX, pureX.pure1', pure1, Bool.true_and,
              Bool.false_and, Bool.and_true, Bool.and_false, Option.isNone_none, AV.cells, AV.one, storable, laid, refless, refless1, List.all_cons, List.all_nil, List.length_cons,
              List.length_nil, List.getElem?_cons_zero, List.getElem?_cons_succ, List.set_cons_zero, List.set_cons_succ, List.set_nil, List.map_cons, List.map_nil, vload, loadC,
              storeC, vnil, vfaddr, vextract, callTo, List.mapM_cons, List.mapM_nil, Option.pure_def, Option.bind_eq_bind, Option.bind_some, tabOf_cons, flatT, flatE, flatC,
              and_self, and_true, true_and, implies_true, forall_const, not_true_eq_false, not_false_eq_true, false_implies, List.take_succ_cons, List.drop_succ_cons,
              List.take_zero, List.drop_zero, Bool.not_true, Bool.not_false, beq_self_eq_true, decide_true, decide_false, eq_self, Int.reduceEq, Int.reduceLE, Int.reduceLT,
              Bool.not_not, Bool.true_or, Bool.or_true, Bool.false_or, Bool.or_false, if_true, if_false, List.getElem?_nil, Kl_normal, Kl_exit, Kl_ret, fc53_0, fc53_1, fc53_2,
              fc53_3, fc53_4, fc53_5, fc53_6, fc53_7, fc53_8, cast_lit, toNat_lit, Int.reduceAdd, Int.reduceSub, Int.reduceMul, Int.reduceNeg, Int.reducePow, Nat.reducePow,
              Int.reduceToNat, Nat.reduceSub, Nat.mul_one, Int.toNat_zero, prod_eta, List.nil_append, List.cons_append, List.append_nil, vconv, vmm, vidxA, viaddrA, iaddr_sl,
              iaddr_lsl, getE, vfield, vlen, fillC, fillE, List.replicate, elemsOf, List.length_map, f2iK_eq, bits_i64, bits_i32, bits_u64, bits_u32, bits_u8, e_mov, g_mov, e_call,
              g_call, g_sqrt]))
    all_goals (try simp only [*, m_math_Sqrt, Bool.and_true, Bool.true_and, Bool.and_false, Bool.false_and, Bool.or_true, Bool.true_or, Bool.or_false, Bool.false_or, Bool.not_true, Bool.not_false, Bool.false_eq_true, if_true, if_false, reduceIte, decide_true, decide_false])
    all_goals (try (simp_all; done))
  · cases h
def v_spec_l01AngleWide_0 (x0 : Nat) (x1 : Nat) : Nat := (fmul .f64 (if (flt .f64 (fabs x1) (fabs x0)) = true then (fdiv .f64 (fabs x1) (fabs x0)) else (fdiv .f64 (fabs x0) (fabs
      x1))) (if (flt .f64 (fabs x1) (fabs x0)) = true then (fdiv .f64 (fabs x1) (fabs x0)) else (fdiv .f64 (fabs x0) (fabs x1))))
def v_spec_l01AngleWide_1 (x0 : Nat) (x1 : Nat) : Nat := (fdiv .f64 (if (flt .f64 (fabs x1) (fabs x0)) = true then (fdiv .f64 (fabs x1) (fabs x0)) else (fdiv .f64 (fabs x0) (fabs
      x1))) (fadd .f64 4607182418800017408 (m_math_Sqrt (fadd .f64 4607182418800017408 (v_spec_l01AngleWide_0 x0 x1)))))
def v_spec_l01AngleWide_2 (x0 : Nat) (x1 : Nat) : Nat := (fdiv .f64 (v_spec_l01AngleWide_1 x0 x1) (fadd .f64 4607182418800017408 (m_math_Sqrt (fadd .f64 4607182418800017408 (fmul
      .f64 (v_spec_l01AngleWide_1 x0 x1) (v_spec_l01AngleWide_1 x0 x1))))))
def v_spec_l01AngleWide_3 (x0 : Nat) (x1 : Nat) : Nat := (fdiv .f64 (v_spec_l01AngleWide_2 x0 x1) (fadd .f64 4607182418800017408 (m_math_Sqrt (fadd .f64 4607182418800017408 (fmul
      .f64 (v_spec_l01AngleWide_2 x0 x1) (v_spec_l01AngleWide_2 x0 x1))))))
def v_spec_l01AngleWide_4 (x0 : Nat) (x1 : Nat) : Nat := (fmul .f64 (fmul .f64 (v_spec_l01AngleWide_3 x0 x1) (v_spec_l01AngleWide_3 x0 x1)) (fsub .f64 (fdiv .f64 4607182418800017408
      (ofInt .f64 15)) (fmul .f64 (fmul .f64 (v_spec_l01AngleWide_3 x0 x1) (v_spec_l01AngleWide_3 x0 x1)) 0)))
def v_spec_l01AngleWide_5 (x0 : Nat) (x1 : Nat) : Nat := (fmul .f64 (fmul .f64 (v_spec_l01AngleWide_3 x0 x1) (v_spec_l01AngleWide_3 x0 x1)) (fsub .f64 (fdiv .f64 4607182418800017408
      (ofInt .f64 13)) (v_spec_l01AngleWide_4 x0 x1)))
def v_spec_l01AngleWide_6 (x0 : Nat) (x1 : Nat) : Nat := (fmul .f64 (fmul .f64 (v_spec_l01AngleWide_3 x0 x1) (v_spec_l01AngleWide_3 x0 x1)) (fsub .f64 (fdiv .f64 4607182418800017408
      (ofInt .f64 11)) (v_spec_l01AngleWide_5 x0 x1)))
def v_spec_l01AngleWide_7 (x0 : Nat) (x1 : Nat) : Nat := (fmul .f64 (fmul .f64 (v_spec_l01AngleWide_3 x0 x1) (v_spec_l01AngleWide_3 x0 x1)) (fsub .f64 (fdiv .f64 4607182418800017408
      (ofInt .f64 9)) (v_spec_l01AngleWide_6 x0 x1)))
def v_spec_l01AngleWide_8 (x0 : Nat) (x1 : Nat) : Nat := (fmul .f64 (fmul .f64 (v_spec_l01AngleWide_3 x0 x1) (v_spec_l01AngleWide_3 x0 x1)) (fsub .f64 (fdiv .f64 4607182418800017408
      (ofInt .f64 7)) (v_spec_l01AngleWide_7 x0 x1)))
def v_spec_l01AngleWide_9 (x0 : Nat) (x1 : Nat) : Nat := (fmul .f64 (fmul .f64 (v_spec_l01AngleWide_3 x0 x1) (v_spec_l01AngleWide_3 x0 x1)) (fsub .f64 (fdiv .f64 4607182418800017408
      (ofInt .f64 5)) (v_spec_l01AngleWide_8 x0 x1)))
def v_spec_l01AngleWide_10 (x0 : Nat) (x1 : Nat) : Nat := (fmul .f64 (fmul .f64 (v_spec_l01AngleWide_3 x0 x1) (v_spec_l01AngleWide_3 x0 x1)) (fsub .f64 (fdiv .f64
      4607182418800017408 (ofInt .f64 3)) (v_spec_l01AngleWide_9 x0 x1)))
def v_spec_l01AngleWide_11 (x0 : Nat) (x1 : Nat) : Nat := (fmul .f64 4620693217682128896 (fmul .f64 (v_spec_l01AngleWide_3 x0 x1) (fsub .f64 (fdiv .f64 4607182418800017408 (ofInt
      .f64 1)) (v_spec_l01AngleWide_10 x0 x1))))
def v_spec_l01AngleWide_12 (x0 : Nat) (x1 : Nat) : Nat := (if (flt .f64 (fabs x1) (fabs x0)) = true then (fsub .f64 4598175219545276416 (fdiv .f64 (v_spec_l01AngleWide_11 x0 x1)
      4618760256179416344)) else (fdiv .f64 (v_spec_l01AngleWide_11 x0 x1) 4618760256179416344))
def m_spec_l01AngleWide (x0 : Nat) (x1 : Nat) : Nat := (if (feq .f64 (fsub .f64 x0 x0) 0) = true then (if (feq .f64 (fsub .f64 x1 x1) 0) = true then (if (feq .f64 x1 0) = true then
      (if (feq .f64 x0 0) = true then 0 else (if (flt .f64 x0 0) = true then (fneg .f64 (if (flt .f64 x1 0) = true then (fsub .f64 4602678819172646912 (v_spec_l01AngleWide_12 x0
      x1)) else (v_spec_l01AngleWide_12 x0 x1))) else (if (flt .f64 x1 0) = true then (fsub .f64 4602678819172646912 (v_spec_l01AngleWide_12 x0 x1)) else (v_spec_l01AngleWide_12 x0
      x1)))) else (if (flt .f64 x0 0) = true then (fneg .f64 (if (flt .f64 x1 0) = true then (fsub .f64 4602678819172646912 (v_spec_l01AngleWide_12 x0 x1)) else
      (v_spec_l01AngleWide_12 x0 x1))) else (if (flt .f64 x1 0) = true then (fsub .f64 4602678819172646912 (v_spec_l01AngleWide_12 x0 x1)) else (v_spec_l01AngleWide_12 x0 x1))))
      else (m_math_NaN)) else (m_math_NaN))
def g_spec_l01AngleWide : List AV → Option AV
  | [.flt .f64 y0, .flt .f64 y1] => some (.flt .f64 (m_spec_l01AngleWide y0 y1))
  | _ => none
def ic62 : ICode := (.seq (.reg [⟨(some 4), none, (.mov (.c (.flt .f64 0)))⟩] [0, 1]) (.seq (.seq (.reg [⟨(some 14), none, (.mov (.t 0))⟩, ⟨(some 15), none, (.mov (.t 0))⟩, ⟨(some
      16), none, (.bin .sub false (.t 14) (.t 15))⟩, ⟨(some 17), none, (.bin .neq false (.t 16) (.c (.flt .f64 0)))⟩, ⟨(some 18), none, (.mov (.t 17))⟩, ⟨(some 19), (some (18,
      false)), (.mov (.t 1))⟩, ⟨(some 20), (some (18, false)), (.mov (.t 1))⟩, ⟨(some 21), (some (18, false)), (.bin .sub false (.t 19) (.t 20))⟩, ⟨(some 22), (some (18, false)),
      (.bin .neq false (.t 21) (.c (.flt .f64 0)))⟩, ⟨(some 23), none, (.pick (.t 18) (.c (.bool true)) (.t 22))⟩] [0, 1, 23]) (.cond (.t 23) (.seq (.reg [⟨(some 24), none, (.call
      (.fn 73) [] [])⟩, ⟨(some 4), none, (.mov (.t 24))⟩] [4]) .ret) .skip)) (.seq (.seq (.reg [⟨(some 25), none, (.mov (.t 1))⟩, ⟨(some 26), none, (.bin .eql false (.t 25) (.c
      (.flt .f64 0)))⟩, ⟨(some 27), none, (.mov (.t 26))⟩, ⟨(some 28), (some (27, true)), (.mov (.t 0))⟩, ⟨(some 29), (some (27, true)), (.bin .eql false (.t 28) (.c (.flt .f64
      0)))⟩, ⟨(some 30), none, (.pick (.t 27) (.t 29) (.c (.bool false)))⟩] [0, 1, 30]) (.cond (.t 30) (.seq (.reg [⟨(some 4), none, (.mov (.c (.flt .f64 0)))⟩] [4]) .ret) .skip))
      (.seq (.reg [⟨(some 31), none, (.mov (.t 0))⟩, ⟨(some 32), none, (.call (.fn 71) [(.t 31)] [])⟩, ⟨(some 5), none, (.mov (.t 32))⟩] [0, 1, 5]) (.seq (.reg [⟨(some 33), none,
      (.mov (.t 1))⟩, ⟨(some 34), none, (.call (.fn 71) [(.t 33)] [])⟩, ⟨(some 6), none, (.mov (.t 34))⟩] [0, 1, 5, 6]) (.seq (.reg [⟨(some 35), none, (.mov (.t 5))⟩, ⟨(some 36),
      none, (.mov (.t 6))⟩, ⟨(some 37), none, (.bin .gtr false (.t 35) (.t 36))⟩, ⟨(some 7), none, (.mov (.t 37))⟩] [0, 1, 5, 6, 7]) (.seq (.reg [⟨(some 8), none, (.mov (.c (.flt
      .f64 0)))⟩] [0, 1, 5, 6, 7]) (.seq (.seq (.reg [⟨(some 38), none, (.mov (.t 7))⟩] [0, 1, 5, 6, 7, 38]) (.cond (.t 38) (.reg [⟨(some 39), none, (.mov (.t 6))⟩, ⟨(some 40),
      none, (.mov (.t 5))⟩, ⟨(some 41), none, (.bin .quo false (.t 39) (.t 40))⟩, ⟨(some 8), none, (.mov (.t 41))⟩] [0, 1, 7, 8]) (.reg [⟨(some 42), none, (.mov (.t 5))⟩, ⟨(some
      43), none, (.mov (.t 6))⟩, ⟨(some 44), none, (.bin .quo false (.t 42) (.t 43))⟩, ⟨(some 8), none, (.mov (.t 44))⟩] [0, 1, 7, 8]))) (.seq (.seq (.reg [⟨(some 9), none, (.mov
      (.c (.int .i64 0)))⟩] [0, 1, 7, 8, 9]) (.block 0 (.loop (.seq (.seq (.reg [⟨(some 45), none, (.mov (.t 9))⟩, ⟨(some 46), none, (.bin .lss false (.t 45) (.c (.int .i64 3)))⟩]
      [0, 1, 7, 8, 9, 46]) (.cond (.t 46) .skip (.exit 0))) (.seq (.block 1 (.reg [⟨(some 49), none, (.mov (.t 8))⟩, ⟨(some 50), none, (.mov (.t 8))⟩, ⟨(some 51), none, (.mov (.t
      8))⟩, ⟨(some 52), none, (.bin .mul false (.t 50) (.t 51))⟩, ⟨(some 53), none, (.bin .add false (.c (.flt .f64 4607182418800017408)) (.t 52))⟩, ⟨(some 54), none, (.call (.fn
      53) [(.t 53)] [])⟩, ⟨(some 55), none, (.bin .add false (.c (.flt .f64 4607182418800017408)) (.t 54))⟩, ⟨(some 56), none, (.bin .quo false (.t 49) (.t 55))⟩, ⟨(some 8), none,
      (.mov (.t 56))⟩] [0, 1, 7, 8, 9])) (.reg [⟨(some 47), none, (.mov (.t 9))⟩, ⟨(some 48), none, (.bin .add false (.t 47) (.c (.int .i64 1)))⟩, ⟨(some 9), none, (.mov (.t 48))⟩]
      [0, 1, 7, 8, 9])))))) (.seq (.reg [⟨(some 57), none, (.mov (.t 8))⟩, ⟨(some 58), none, (.mov (.t 8))⟩, ⟨(some 59), none, (.bin .mul false (.t 57) (.t 58))⟩, ⟨(some 10), none,
      (.mov (.t 59))⟩] [0, 1, 7, 8, 10]) (.seq (.reg [⟨(some 11), none, (.mov (.c (.flt .f64 0)))⟩] [0, 1, 7, 8, 10, 11]) (.seq (.seq (.reg [⟨(some 12), none, (.mov (.c (.int .i64
      15)))⟩] [0, 1, 7, 8, 10, 11, 12]) (.block 2 (.loop (.seq (.seq (.reg [⟨(some 60), none, (.mov (.t 12))⟩, ⟨(some 61), none, (.bin .geq false (.t 60) (.c (.int .i64 1)))⟩] [0,
      1, 7, 8, 10, 11, 12, 61]) (.cond (.t 61) .skip (.exit 2))) (.seq (.block 3 (.reg [⟨(some 64), none, (.mov (.t 12))⟩, ⟨(some 65), none, (.conv (.flt .f64) (.t 64))⟩, ⟨(some
      66), none, (.bin .quo false (.c (.flt .f64 4607182418800017408)) (.t 65))⟩, ⟨(some 67), none, (.mov (.t 10))⟩, ⟨(some 68), none, (.mov (.t 11))⟩, ⟨(some 69), none, (.bin .mul
      false (.t 67) (.t 68))⟩, ⟨(some 70), none, (.bin .sub false (.t 66) (.t 69))⟩, ⟨(some 11), none, (.mov (.t 70))⟩] [0, 1, 7, 8, 10, 11, 12])) (.reg [⟨(some 62), none, (.mov (.t
      12))⟩, ⟨(some 63), none, (.bin .sub false (.t 62) (.c (.int .i64 2)))⟩, ⟨(some 12), none, (.mov (.t 63))⟩] [0, 1, 7, 8, 10, 11, 12])))))) (.seq (.reg [⟨(some 71), none, (.mov
      (.t 8))⟩, ⟨(some 72), none, (.mov (.t 11))⟩, ⟨(some 73), none, (.bin .mul false (.t 71) (.t 72))⟩, ⟨(some 74), none, (.bin .mul false (.c (.flt .f64 4620693217682128896)) (.t
      73))⟩, ⟨(some 75), none, (.bin .quo false (.t 74) (.c (.flt .f64 4618760256179416344)))⟩, ⟨(some 13), none, (.mov (.t 75))⟩] [0, 1, 7, 13]) (.seq (.seq (.reg [⟨(some 76),
      none, (.mov (.t 7))⟩] [0, 1, 13, 76]) (.cond (.t 76) (.reg [⟨(some 77), none, (.mov (.t 13))⟩, ⟨(some 78), none, (.bin .sub false (.c (.flt .f64 4598175219545276416)) (.t
      77))⟩, ⟨(some 13), none, (.mov (.t 78))⟩] [0, 1, 13]) .skip)) (.seq (.seq (.reg [⟨(some 79), none, (.mov (.t 1))⟩, ⟨(some 80), none, (.bin .lss false (.t 79) (.c (.flt .f64
      0)))⟩] [0, 13, 80]) (.cond (.t 80) (.reg [⟨(some 81), none, (.mov (.t 13))⟩, ⟨(some 82), none, (.bin .sub false (.c (.flt .f64 4602678819172646912)) (.t 81))⟩, ⟨(some 13),
      none, (.mov (.t 82))⟩] [0, 13]) .skip)) (.seq (.seq (.reg [⟨(some 83), none, (.mov (.t 0))⟩, ⟨(some 84), none, (.bin .lss false (.t 83) (.c (.flt .f64 0)))⟩] [13, 84]) (.cond
      (.t 84) (.seq (.reg [⟨(some 85), none, (.mov (.t 13))⟩, ⟨(some 86), none, (.un .neg (.t 85))⟩, ⟨(some 4), none, (.mov (.t 86))⟩] [4]) .ret) .skip)) (.seq (.reg [⟨(some 87),
      none, (.mov (.t 13))⟩, ⟨(some 4), none, (.mov (.t 87))⟩] [4]) .ret)))))))))))))))))
def cp62 : CP := { n := 88, kp := [[0, 1], [0, 1, 23], [4], [0, 1, 30], [4], [0, 1, 5], [0, 1, 5, 6], [0, 1, 5, 6, 7], [0, 1, 5, 6, 7], [0, 1, 5, 6, 7, 38], [0, 1, 7, 8], [0, 1, 7,
      8], [0, 1, 7, 8, 9], [0, 1, 7, 8, 9, 46], [0, 1, 7, 8, 9], [0, 1, 7, 8, 9], [0, 1, 7, 8, 10], [0, 1, 7, 8, 10, 11], [0, 1, 7, 8, 10, 11, 12], [0, 1, 7, 8, 10, 11, 12, 61], [0,
      1, 7, 8, 10, 11, 12], [0, 1, 7, 8, 10, 11, 12], [0, 1, 7, 13], [0, 1, 13, 76], [0, 1, 13], [0, 13, 80], [0, 13], [13, 84], [4], [4]] }
theorem fc62_0 : IntKind.wrap .i64 (-1) = (-1) := by decide
theorem fc62_1 : IntKind.wrap .i64 1 = 1 := by decide
theorem fc62_2 : IntKind.wrap .i64 11 = 11 := by decide
theorem fc62_3 : IntKind.wrap .i64 13 = 13 := by decide
theorem fc62_4 : IntKind.wrap .i64 2 = 2 := by decide
theorem fc62_5 : IntKind.wrap .i64 3 = 3 := by decide
theorem fc62_6 : IntKind.wrap .i64 5 = 5 := by decide
theorem fc62_7 : IntKind.wrap .i64 7 = 7 := by decide
theorem fc62_8 : IntKind.wrap .i64 9 = 9 := by decide
theorem s62 : ∀ vs r, g_spec_l01AngleWide vs = some r → Says Try.prog 62 vs r := by
  intro vs r h
  unfold g_spec_l01AngleWide at h
  split at h
  · rename_i y0 y1
    cases h
    refine spec_of (tab := tabOf [(53, g_math_Sqrt), (71, g_abs), (73, g_math_NaN)]) (cp := cp62) (ic := ic62) (rvl := [(.t 4)]) hm (tabOk_cons s53 (tabOk_cons s71 (tabOk_cons s73 tabOk_nil))) Try.func62 rfl rfl rfl (by kernel_rfl) rfl (Nat.le_of_ble_eq_true rfl) ?_
    show eA _ _ _ _
    unfold ic62
    simp only [
        eA_seq, eA_reg, eA_ret, eA_skip, eA_cond, eA_block, eA_exit, eCc_true, eCc_false, Kq_normal, Kq_ret, Kq_exit, Kb_normal, Kb_exit, Kb_ret, Kreg_eq, eI_nil, bindSt_some,
              bindSt_none, bindSt_ite, eR_eq, eGI_tt, eGI_ff, eGI_tf, eGI_ft, eop, vop, ev_t, ev_c, ev_f, Option.map, put_some, put_none, set_eq, setH_eq, get_eq, hp_eq, keep_cons,
              keep_nil, lk_cons, lk_nil, startSt, envOf, reduceIte, Nat.reduceEqDiff, Nat.reduceAdd, Nat.zero_add, Nat.add_zero, Nat.reduceMul, Nat.reduceLT, Nat.reduceLeDiff, bop,
              uop, intop, fltop, convop, true_or, or_true, Bool.false_eq_true, ret_ok, ret_normal, outV, rvV, rvs, ex_some, pureV, pureX, pureX.pure1', pure1, Bool.true_and,
              Bool.false_and, Bool.and_true, Bool.and_false, Option.isNone_none, AV.cells, AV.one, storable, laid, refless, refless1, List.all_cons, List.all_nil, List.length_cons,
              List.length_nil, List.getElem?_cons_zero, List.getElem?_cons_succ, List.set_cons_zero, List.set_cons_succ, List.set_nil, List.map_cons, List.map_nil, vload, loadC,
              storeC, vnil, vfaddr, vextract, callTo, List.mapM_cons, List.mapM_nil, Option.pure_def, Option.bind_eq_bind, Option.bind_some, tabOf_cons, flatT, flatE, flatC,
              and_self, and_true, true_and, implies_true, forall_const, not_true_eq_false, not_false_eq_true, false_implies, List.take_succ_cons, List.drop_succ_cons,
              List.take_zero, List.drop_zero, Bool.not_true, Bool.not_false, beq_self_eq_true, decide_true, decide_false, eq_self, Int.reduceEq, Int.reduceLE, Int.reduceLT,
              Bool.not_not, Bool.true_or, Bool.or_true, Bool.false_or, Bool.or_false, if_true, if_false, List.getElem?_nil, Kl_normal, Kl_exit, Kl_ret, fc62_0, fc62_1, fc62_2,
              fc62_3, fc62_4, fc62_5, fc62_6, fc62_7, fc62_8, cast_lit, toNat_lit, Int.reduceAdd, Int.reduceSub, Int.reduceMul, Int.reduceNeg, Int.reducePow, Nat.reducePow,
              Int.reduceToNat, Nat.reduceSub, Nat.mul_one, Int.toNat_zero, prod_eta, List.nil_append, List.cons_append, List.append_nil, vconv, vmm, vidxA, viaddrA, iaddr_sl,
              iaddr_lsl, getE, vfield, vlen, fillC, fillE, List.replicate, elemsOf, List.length_map, f2iK_eq, bits_i64, bits_i32, bits_u64, bits_u32, bits_u8, e_mov, g_mov, e_pick,
              g_pick, e_bin, g_bin, e_un, g_un, e_conv, g_conv, e_call, g_call, g_math_Sqrt, g_abs, g_math_NaN, ↓b_pick, ePk_true, ePk_false]
    repeat' (first
      | ((first | (refine eGI_of (fun h => ?_) (fun h => ?_)) | (refine eCc_of (fun h => ?_) (fun h => ?_)) | (refine ePk_of (fun h => ?_) (fun h => ?_)) | (have h := True.intro; refine KW_refl ?_) | (have h := True.intro; refine eA_loop ?_)) <;> (try simp only [Bool.not_eq_true', Bool.not_eq_false'] at h) <;> simp only [h,
        eA_seq, eA_reg, eA_ret, eA_skip, eA_cond, eA_block, eA_exit, eCc_true, eCc_false, Kq_normal, Kq_ret, Kq_exit, Kb_normal, Kb_exit, Kb_ret, Kreg_eq, eI_nil, bindSt_some,
              bindSt_none, bindSt_ite, eR_eq, eGI_tt, eGI_ff, eGI_tf, eGI_ft, eop, vop, ev_t, ev_c, ev_f, Option.map, put_some, put_none, set_eq, setH_eq, get_eq, hp_eq, keep_cons,
              keep_nil, lk_cons, lk_nil, startSt, envOf, reduceIte, Nat.reduceEqDiff, Nat.reduceAdd, Nat.zero_add, Nat.add_zero, Nat.reduceMul, Nat.reduceLT, Nat.reduceLeDiff, bop,
              uop, intop, fltop, convop, true_or, or_true, Bool.false_eq_true, ret_ok, ret_normal, outV, rvV, rvs, ex_some, pureV, pureX, pureX.pure1', pure1, Bool.true_and,
              Bool.false_and, Bool.and_true, Bool.and_false, Option.isNone_none, AV.cells, AV.one, storable, laid, refless, refless1, List.all_cons, List.all_nil, List.length_cons,
              List.length_nil, List.getElem?_cons_zero, List.getElem?_cons_succ, List.set_cons_zero, List.set_cons_succ, List.set_nil, List.map_cons, List.map_nil, vload, loadC,
              storeC, vnil, vfaddr, vextract, callTo, List.mapM_cons, List.mapM_nil, Option.pure_def, Option.bind_eq_bind, Option.bind_some, tabOf_cons, flatT, flatE, flatC,
              and_self, and_true, true_and, implies_true, forall_const, not_true_eq_false, not_false_eq_true, false_implies, List.take_succ_cons, List.drop_succ_cons,
              List.take_zero, List.drop_zero, Bool.not_true, Bool.not_false, beq_self_eq_true, decide_true, decide_false, eq_self, Int.reduceEq, Int.reduceLE, Int.reduceLT,
              Bool.not_not, Bool.true_or, Bool.or_true, Bool.false_or, Bool.or_false, if_true, if_false, List.getElem?_nil, Kl_normal, Kl_exit, Kl_ret, fc62_0, fc62_1, fc62_2,
              fc62_3, fc62_4, fc62_5, fc62_6, fc62_7, fc62_8, cast_lit, toNat_lit, Int.reduceAdd, Int.reduceSub, Int.reduceMul, Int.reduceNeg, Int.reducePow, Nat.reducePow,
              Int.reduceToNat, Nat.reduceSub, Nat.mul_one, Int.toNat_zero, prod_eta, List.nil_append, List.cons_append, List.append_nil, vconv, vmm, vidxA, viaddrA, iaddr_sl,
              iaddr_lsl, getE, vfield, vlen, fillC, fillE, List.replicate, elemsOf, List.length_map, f2iK_eq, bits_i64, bits_i32, bits_u64, bits_u32, bits_u8, e_mov, g_mov, e_pick,
              g_pick, e_bin, g_bin, e_un, g_un, e_conv, g_conv, e_call, g_call, g_math_Sqrt, g_abs, g_math_NaN, ↓b_pick, ePk_true, ePk_false]))
    all_goals (try simp only [*, m_spec_l01AngleWide, v_spec_l01AngleWide_0, v_spec_l01AngleWide_1, v_spec_l01AngleWide_2, v_spec_l01AngleWide_3, v_spec_l01AngleWide_4, v_spec_l01AngleWide_5, v_spec_l01AngleWide_6, v_spec_l01AngleWide_7, v_spec_l01AngleWide_8, v_spec_l01AngleWide_9, v_spec_l01AngleWide_10, v_spec_l01AngleWide_11, v_spec_l01AngleWide_12, Bool.and_true, Bool.true_and, Bool.and_false, Bool.false_and, Bool.or_true, Bool.true_or, Bool.or_false, Bool.false_or, Bool.not_true, Bool.not_false, Bool.false_eq_true, if_true, if_false, reduceIte, decide_true, decide_false])
    all_goals (try (simp_all; done))
  · cases h
def m_spec_l01Narrow (x0 : Nat) : Nat := (narrow x0)
def p_spec_l01Narrow (x0 : Nat) : Bool := (narrowOk x0)
def g_spec_l01Narrow : List AV → Option AV
  | [.flt .f64 y0] => if p_spec_l01Narrow y0 = true then some (.flt .f32 (m_spec_l01Narrow y0)) else none
  | _ => none
def ic61 : ICode := (.seq (.reg [⟨(some 2), none, (.mov (.c (.flt .f32 0)))⟩] [0]) (.seq (.reg [⟨(some 3), none, (.mov (.t 0))⟩, ⟨(some 4), none, (.conv (.flt .f32) (.t 3))⟩, ⟨(some
      2), none, (.mov (.t 4))⟩] [2]) .ret))
def cp61 : CP := { n := 5, kp := [[0], [2]] }
theorem fc61_0 : IntKind.wrap .i64 (-1) = (-1) := by decide
theorem fc61_1 : IntKind.wrap .i64 1 = 1 := by decide
theorem fc61_2 : IntKind.wrap .i64 11 = 11 := by decide
theorem fc61_3 : IntKind.wrap .i64 13 = 13 := by decide
theorem fc61_4 : IntKind.wrap .i64 2 = 2 := by decide
theorem fc61_5 : IntKind.wrap .i64 3 = 3 := by decide
theorem fc61_6 : IntKind.wrap .i64 5 = 5 := by decide
theorem fc61_7 : IntKind.wrap .i64 7 = 7 := by decide
theorem fc61_8 : IntKind.wrap .i64 9 = 9 := by decide
theorem s61 : ∀ vs r, g_spec_l01Narrow vs = some r → Says Try.prog 61 vs r := by
  intro vs r h
  unfold g_spec_l01Narrow at h
  split at h
  · rename_i y0
    split at h
    · rename_i hp
      cases h
      refine spec_of (tab := tabOf []) (cp := cp61) (ic := ic61) (rvl := [(.t 2)]) hm tabOk_nil Try.func61 rfl rfl rfl (by kernel_rfl) rfl (Nat.le_of_ble_eq_true rfl) ?_
      show eA _ _ _ _
      unfold ic61
      simp only [p_spec_l01Narrow, Bool.and_eq_true, Bool.or_eq_true, decide_eq_true_eq, Bool.not_eq_true', decide_eq_false_iff_not] at hp
      simp only [
          hp, eA_seq, eA_reg, eA_ret, eA_skip, eA_cond, eA_block, eA_exit, eCc_true, eCc_false, Kq_normal, Kq_ret, Kq_exit, Kb_normal, Kb_exit, Kb_ret, Kreg_eq, eI_nil, bindSt_some,
                bindSt_none, bindSt_ite, eR_eq, eGI_tt, eGI_ff, eGI_tf, eGI_ft, eop, vop, ev_t, ev_c, ev_f, Option.map, put_some, put_none, set_eq, setH_eq, get_eq, hp_eq,
                keep_cons, keep_nil, lk_cons, lk_nil, startSt, envOf, reduceIte, Nat.reduceEqDiff, Nat.reduceAdd, Nat.zero_add, Nat.add_zero, Nat.reduceMul, Nat.reduceLT,
                Nat.reduceLeDiff, bop, uop, intop, fltop, convop, true_or, or_true, Bool.false_eq_true, ret_ok, ret_normal, outV, rvV, rvs, ex_some, pureV, pureX, pureX.pure1',
                pure1, Bool.true_and, Bool.false_and, Bool.and_true, Bool.and_false, Option.isNone_none, AV.cells, AV.one, storable, laid, refless, refless1, List.all_cons,
                List.all_nil, List.length_cons, List.length_nil, List.getElem?_cons_zero, List.getElem?_cons_succ, List.set_cons_zero, List.set_cons_succ, List.set_nil,
                List.map_cons, List.map_nil, vload, loadC, storeC, vnil, vfaddr, vextract, callTo, List.mapM_cons, List.mapM_nil, Option.pure_def, Option.bind_eq_bind,
                Option.bind_some, tabOf_cons, flatT, flatE, flatC, and_self, and_true, true_and, implies_true, forall_const, not_true_eq_false, not_false_eq_true, false_implies,
                List.take_succ_cons, List.drop_succ_cons, List.take_zero, List.drop_zero, Bool.not_true, Bool.not_false, beq_self_eq_true, decide_true, decide_false, eq_self,
                Int.reduceEq, Int.reduceLE, Int.reduceLT, Bool.not_not, Bool.true_or, Bool.or_true, Bool.false_or, Bool.or_false, if_true, if_false, List.getElem?_nil, Kl_normal,
                Kl_exit, Kl_ret, fc61_0, fc61_1, fc61_2, fc61_3, fc61_4, fc61_5, fc61_6, fc61_7, fc61_8, cast_lit, toNat_lit, Int.reduceAdd, Int.reduceSub, Int.reduceMul,
                Int.reduceNeg, Int.reducePow, Nat.reducePow, Int.reduceToNat, Nat.reduceSub, Nat.mul_one, Int.toNat_zero, prod_eta, List.nil_append, List.cons_append,
                List.append_nil, vconv, vmm, vidxA, viaddrA, iaddr_sl, iaddr_lsl, getE, vfield, vlen, fillC, fillE, List.replicate, elemsOf, List.length_map, f2iK_eq, bits_i64,
                bits_i32, bits_u64, bits_u32, bits_u8, e_mov, g_mov, e_conv, g_conv]
      repeat' (first
        | ((first | (refine eGI_of (fun h => ?_) (fun h => ?_)) | (refine eCc_of (fun h => ?_) (fun h => ?_))) <;> (try simp only [Bool.not_eq_true', Bool.not_eq_false'] at h) <;> (try simp only [h, reduceCtorEq, Bool.not_eq_true', decide_eq_false_iff_not, Bool.not_true, Bool.not_false, Bool.false_or, Bool.true_or, Bool.true_and, Bool.false_and, Bool.and_eq_true, Bool.or_eq_true, if_true, if_false, reduceIte, Bool.false_eq_true, and_true, true_and, false_or, or_false, decide_eq_true_eq, not_false_eq_true, not_true_eq_false] at hp) <;> (try (have h2 := h; simp only [decide_eq_true_eq, decide_eq_false_iff_not] at h2; simp only [h2, if_true, if_false, false_or, true_or, or_true, or_false, and_true, true_and, not_false_eq_true, not_true_eq_false] at hp)) <;> simp only [h,
          hp, eA_seq, eA_reg, eA_ret, eA_skip, eA_cond, eA_block, eA_exit, eCc_true, eCc_false, Kq_normal, Kq_ret, Kq_exit, Kb_normal, Kb_exit, Kb_ret, Kreg_eq, eI_nil, bindSt_some,
                bindSt_none, bindSt_ite, eR_eq, eGI_tt, eGI_ff, eGI_tf, eGI_ft, eop, vop, ev_t, ev_c, ev_f, Option.map, put_some, put_none, set_eq, setH_eq, get_eq, hp_eq,
                keep_cons, keep_nil, lk_cons, lk_nil, startSt, envOf, reduceIte, Nat.reduceEqDiff, Nat.reduceAdd, Nat.zero_add, Nat.add_zero, Nat.reduceMul, Nat.reduceLT,
                Nat.reduceLeDiff, bop, uop, intop, fltop, convop, true_or, or_true, Bool.false_eq_true, ret_ok, ret_normal, outV, rvV, rvs, ex_some, pureV, pureX, pureX.pure1',
                pure1, Bool.true_and, Bool.false_and, Bool.and_true, Bool.and_false, Option.isNone_none, AV.cells, AV.one, storable, laid, refless, refless1, List.all_cons,
                List.all_nil, List.length_cons, List.length_nil, List.getElem?_cons_zero, List.getElem?_cons_succ, List.set_cons_zero, List.set_cons_succ, List.set_nil,
                List.map_cons, List.map_nil, vload, loadC, storeC, vnil, vfaddr, vextract, callTo, List.mapM_cons, List.mapM_nil, Option.pure_def, Option.bind_eq_bind,
                Option.bind_some, tabOf_cons, flatT, flatE, flatC, and_self, and_true, true_and, implies_true, forall_const, not_true_eq_false, not_false_eq_true, false_implies,
                List.take_succ_cons, List.drop_succ_cons, List.take_zero, List.drop_zero, Bool.not_true, Bool.not_false, beq_self_eq_true, decide_true, decide_false, eq_self,
                Int.reduceEq, Int.reduceLE, Int.reduceLT, Bool.not_not, Bool.true_or, Bool.or_true, Bool.false_or, Bool.or_false, if_true, if_false, List.getElem?_nil, Kl_normal,
                Kl_exit, Kl_ret, fc61_0, fc61_1, fc61_2, fc61_3, fc61_4, fc61_5, fc61_6, fc61_7, fc61_8, cast_lit, toNat_lit, Int.reduceAdd, Int.reduceSub, Int.reduceMul,
                Int.reduceNeg, Int.reducePow, Nat.reducePow, Int.reduceToNat, Nat.reduceSub, Nat.mul_one, Int.toNat_zero, prod_eta, List.nil_append, List.cons_append,
                List.append_nil, vconv, vmm, vidxA, viaddrA, iaddr_sl, iaddr_lsl, getE, vfield, vlen, fillC, fillE, List.replicate, elemsOf, List.length_map, f2iK_eq, bits_i64,
                bits_i32, bits_u64, bits_u32, bits_u8, e_mov, g_mov, e_conv, g_conv]))
      all_goals (try simp only [*, m_spec_l01Narrow, Bool.and_true, Bool.true_and, Bool.and_false, Bool.false_and, Bool.or_true, Bool.true_or, Bool.or_false, Bool.false_or, Bool.not_true, Bool.not_false, Bool.false_eq_true, if_true, if_false, reduceIte, decide_true, decide_false])
      all_goals (try (simp_all; done))
    · cases h
  · cases h
def m_spec_l01Angle (x0 : Nat) (x1 : Nat) : Nat := (m_spec_l01Narrow (m_spec_l01AngleWide (widen x0) (widen x1)))
def p_spec_l01Angle (x0 : Nat) (x1 : Nat) : Bool := (p_spec_l01Narrow (m_spec_l01AngleWide (widen x0) (widen x1)))
def g_spec_l01Angle : List AV → Option AV
  | [.flt .f32 y0, .flt .f32 y1] => if p_spec_l01Angle y0 y1 = true then some (.flt .f32 (m_spec_l01Angle y0 y1)) else none
  | _ => none
def ic75 : ICode := (.seq (.reg [⟨(some 4), none, (.mov (.c (.flt .f32 0)))⟩] [0, 1]) (.seq (.reg [⟨(some 5), none, (.mov (.t 0))⟩, ⟨(some 6), none, (.conv (.flt .f64) (.t 5))⟩,
      ⟨(some 7), none, (.mov (.t 1))⟩, ⟨(some 8), none, (.conv (.flt .f64) (.t 7))⟩, ⟨(some 9), none, (.call (.fn 62) [(.t 6), (.t 8)] [])⟩, ⟨(some 10), none, (.call (.fn 61) [(.t
      9)] [])⟩, ⟨(some 4), none, (.mov (.t 10))⟩] [4]) .ret))
def cp75 : CP := { n := 11, kp := [[0, 1], [4]] }
theorem fc75_0 : IntKind.wrap .i64 (-1) = (-1) := by decide
theorem fc75_1 : IntKind.wrap .i64 1 = 1 := by decide
theorem fc75_2 : IntKind.wrap .i64 11 = 11 := by decide
theorem fc75_3 : IntKind.wrap .i64 13 = 13 := by decide
theorem fc75_4 : IntKind.wrap .i64 2 = 2 := by decide
theorem fc75_5 : IntKind.wrap .i64 3 = 3 := by decide
theorem fc75_6 : IntKind.wrap .i64 5 = 5 := by decide
theorem fc75_7 : IntKind.wrap .i64 7 = 7 := by decide
theorem fc75_8 : IntKind.wrap .i64 9 = 9 := by decide
theorem s75 : ∀ vs r, g_spec_l01Angle vs = some r → Says Try.prog 75 vs r := by
  intro vs r h
  unfold g_spec_l01Angle at h
  split at h
  · rename_i y0 y1
    split at h
    · rename_i hp
      cases h
      refine spec_of (tab := tabOf [(61, g_spec_l01Narrow), (62, g_spec_l01AngleWide)]) (cp := cp75) (ic := ic75) (rvl := [(.t 4)]) hm (tabOk_cons s61 (tabOk_cons s62 tabOk_nil)) Try.func75 rfl rfl rfl (by kernel_rfl) rfl (Nat.le_of_ble_eq_true rfl) ?_
      show eA _ _ _ _
      unfold ic75
      simp only [p_spec_l01Angle, Bool.and_eq_true, Bool.or_eq_true, decide_eq_true_eq, Bool.not_eq_true', decide_eq_false_iff_not] at hp
      simp only [
          hp, eA_seq, eA_reg, eA_ret, eA_skip, eA_cond, eA_block, eA_exit, eCc_true, eCc_false, Kq_normal, Kq_ret, Kq_exit, Kb_normal, Kb_exit, Kb_ret, Kreg_eq, eI_nil, bindSt_some,
                bindSt_none, bindSt_ite, eR_eq, eGI_tt, eGI_ff, eGI_tf, eGI_ft, eop, vop, ev_t, ev_c, ev_f, Option.map, put_some, put_none, set_eq, setH_eq, get_eq, hp_eq,
                keep_cons, keep_nil, lk_cons, lk_nil, startSt, envOf, reduceIte, Nat.reduceEqDiff, Nat.reduceAdd, Nat.zero_add, Nat.add_zero, Nat.reduceMul, Nat.reduceLT,
                Nat.reduceLeDiff, bop, uop, intop, fltop, convop, true_or, or_true, Bool.false_eq_true, ret_ok, ret_normal, outV, rvV, rvs, ex_some, pureV, pureX, pureX.pure1',
                pure1, Bool.true_and, Bool.false_and, Bool.and_true, Bool.and_false, Option.isNone_none, AV.cells, AV.one, storable, laid, refless, refless1, List.all_cons,
                List.all_nil, List.length_cons, List.length_nil, List.getElem?_cons_zero, List.getElem?_cons_succ, List.set_cons_zero, List.set_cons_succ, List.set_nil,
                List.map_cons, List.map_nil, vload, loadC, storeC, vnil, vfaddr, vextract, callTo, List.mapM_cons, List.mapM_nil, Option.pure_def, Option.bind_eq_bind,
                Option.bind_some, tabOf_cons, flatT, flatE, flatC, and_self, and_true, true_and, implies_true, forall_const, not_true_eq_false, not_false_eq_true, false_implies,
                List.take_succ_cons, List.drop_succ_cons, List.take_zero, List.drop_zero, Bool.not_true, Bool.not_false, beq_self_eq_true, decide_true, decide_false, eq_self,
                Int.reduceEq, Int.reduceLE, Int.reduceLT, Bool.not_not, Bool.true_or, Bool.or_true, Bool.false_or, Bool.or_false, if_true, if_false, List.getElem?_nil, Kl_normal,
                Kl_exit, Kl_ret, fc75_0, fc75_1, fc75_2, fc75_3, fc75_4, fc75_5, fc75_6, fc75_7, fc75_8, cast_lit, toNat_lit, Int.reduceAdd, Int.reduceSub, Int.reduceMul,
                Int.reduceNeg, Int.reducePow, Nat.reducePow, Int.reduceToNat, Nat.reduceSub, Nat.mul_one, Int.toNat_zero, prod_eta, List.nil_append, List.cons_append,
                List.append_nil, vconv, vmm, vidxA, viaddrA, iaddr_sl, iaddr_lsl, getE, vfield, vlen, fillC, fillE, List.replicate, elemsOf, List.length_map, f2iK_eq, bits_i64,
                bits_i32, bits_u64, bits_u32, bits_u8, e_mov, g_mov, e_conv, g_conv, e_call, g_call, g_spec_l01Narrow, g_spec_l01AngleWide]
      repeat' (first
        | ((first | (refine eGI_of (fun h => ?_) (fun h => ?_)) | (refine eCc_of (fun h => ?_) (fun h => ?_))) <;> (try simp only [Bool.not_eq_true', Bool.not_eq_false'] at h) <;> (try simp only [h, reduceCtorEq, Bool.not_eq_true', decide_eq_false_iff_not, Bool.not_true, Bool.not_false, Bool.false_or, Bool.true_or, Bool.true_and, Bool.false_and, Bool.and_eq_true, Bool.or_eq_true, if_true, if_false, reduceIte, Bool.false_eq_true, and_true, true_and, false_or, or_false, decide_eq_true_eq, not_false_eq_true, not_true_eq_false] at hp) <;> (try (have h2 := h; simp only [decide_eq_true_eq, decide_eq_false_iff_not] at h2; simp only [h2, if_true, if_false, false_or, true_or, or_true, or_false, and_true, true_and, not_false_eq_true, not_true_eq_false] at hp)) <;> simp only [h,
          hp, eA_seq, eA_reg, eA_ret, eA_skip, eA_cond, eA_block, eA_exit, eCc_true, eCc_false, Kq_normal, Kq_ret, Kq_exit, Kb_normal, Kb_exit, Kb_ret, Kreg_eq, eI_nil, bindSt_some,
                bindSt_none, bindSt_ite, eR_eq, eGI_tt, eGI_ff, eGI_tf, eGI_ft, eop, vop, ev_t, ev_c, ev_f, Option.map, put_some, put_none, set_eq, setH_eq, get_eq, hp_eq,
                keep_cons, keep_nil, lk_cons, lk_nil, startSt, envOf, reduceIte, Nat.reduceEqDiff, Nat.reduceAdd, Nat.zero_add, Nat.add_zero, Nat.reduceMul, Nat.reduceLT,
                Nat.reduceLeDiff, bop, uop, intop, fltop, convop, true_or, or_true, Bool.false_eq_true, ret_ok, ret_normal, outV, rvV, rvs, ex_some, pureV, pureX, pureX.pure1',
                pure1, Bool.true_and, Bool.false_and, Bool.and_true, Bool.and_false, Option.isNone_none, AV.cells, AV.one, storable, laid, refless, refless1, List.all_cons,
                List.all_nil, List.length_cons, List.length_nil, List.getElem?_cons_zero, List.getElem?_cons_succ, List.set_cons_zero, List.set_cons_succ, List.set_nil,
                List.map_cons, List.map_nil, vload, loadC, storeC, vnil, vfaddr, vextract, callTo, List.mapM_cons, List.mapM_nil, Option.pure_def, Option.bind_eq_bind,
                Option.bind_some, tabOf_cons, flatT, flatE, flatC, and_self, and_true, true_and, implies_true, forall_const, not_true_eq_false, not_false_eq_true, false_implies,
                List.take_succ_cons, List.drop_succ_cons, List.take_zero, List.drop_zero, Bool.not_true, Bool.not_false, beq_self_eq_true, decide_true, decide_false, eq_self,
                Int.reduceEq, Int.reduceLE, Int.reduceLT, Bool.not_not, Bool.true_or, Bool.or_true, Bool.false_or, Bool.or_false, if_true, if_false, List.getElem?_nil, Kl_normal,
                Kl_exit, Kl_ret, fc75_0, fc75_1, fc75_2, fc75_3, fc75_4, fc75_5, fc75_6, fc75_7, fc75_8, cast_lit, toNat_lit, Int.reduceAdd, Int.reduceSub, Int.reduceMul,
                Int.reduceNeg, Int.reducePow, Nat.reducePow, Int.reduceToNat, Nat.reduceSub, Nat.mul_one, Int.toNat_zero, prod_eta, List.nil_append, List.cons_append,
                List.append_nil, vconv, vmm, vidxA, viaddrA, iaddr_sl, iaddr_lsl, getE, vfield, vlen, fillC, fillE, List.replicate, elemsOf, List.length_map, f2iK_eq, bits_i64,
                bits_i32, bits_u64, bits_u32, bits_u8, e_mov, g_mov, e_conv, g_conv, e_call, g_call, g_spec_l01Narrow, g_spec_l01AngleWide]))
      all_goals (try simp only [*, m_spec_l01Angle, Bool.and_true, Bool.true_and, Bool.and_false, Bool.false_and, Bool.or_true, Bool.true_or, Bool.or_false, Bool.false_or, Bool.not_true, Bool.not_false, Bool.false_eq_true, if_true, if_false, reduceIte, decide_true, decide_false])
      all_goals (try (simp_all; done))
    · cases h
  · cases h
def m_spec_l04Hinge (x0 : (Nat × Nat × Nat × Nat)) (x1 : (Nat × Nat × Nat)) : Nat := (if (flt .f32 1056964608 (fmul .f32 1073741824 (m_spec_l01Angle (m_spec_l01Inner x1
      (m_spec_l02Axis x0)) x0.1))) = true then (fsub .f32 (fmul .f32 1073741824 (m_spec_l01Angle (m_spec_l01Inner x1 (m_spec_l02Axis x0)) x0.1)) 1065353216) else (if (flt .f32 (fmul
      .f32 1073741824 (m_spec_l01Angle (m_spec_l01Inner x1 (m_spec_l02Axis x0)) x0.1)) 3204448256) = true then (fadd .f32 (fmul .f32 1073741824 (m_spec_l01Angle (m_spec_l01Inner x1
      (m_spec_l02Axis x0)) x0.1)) 1065353216) else (fmul .f32 1073741824 (m_spec_l01Angle (m_spec_l01Inner x1 (m_spec_l02Axis x0)) x0.1))))
def p_spec_l04Hinge (x0 : (Nat × Nat × Nat × Nat)) (x1 : (Nat × Nat × Nat)) : Bool := (p_spec_l01Angle (m_spec_l01Inner x1 (m_spec_l02Axis x0)) x0.1)
def g_spec_l04Hinge : List AV → Option AV
  | [.agg [.flt .f32 y0, .flt .f32 y1, .flt .f32 y2, .flt .f32 y3], .agg [.flt .f32 y4, .flt .f32 y5, .flt .f32 y6]] => if p_spec_l04Hinge
      (y0, y1, y2, y3) (y4, y5, y6) = true then some (.flt .f32 (m_spec_l04Hinge (y0, y1, y2, y3) (y4, y5, y6))) else none
  | _ => none
def ic55 : ICode := (.seq (.reg [⟨(some 2), none, (.box 4 (.t 0))⟩, ⟨(some 3), none, (.box 3 (.t 1))⟩, ⟨(some 4), none, (.mov (.c (.flt .f32 0)))⟩] [2, 3]) (.seq (.reg [⟨(some 6),
      none, (.load (some 3) (.t 3))⟩, ⟨(some 7), none, (.load (some 4) (.t 2))⟩, ⟨(some 8), none, (.call (.fn 76) [(.t 7)] [])⟩, ⟨(some 9), none, (.call (.fn 40) [(.t 6), (.t 8)]
      [])⟩, ⟨(some 10), none, (.faddr 0 (.t 2))⟩, ⟨(some 11), none, (.load none (.t 10))⟩, ⟨(some 12), none, (.call (.fn 75) [(.t 9), (.t 11)] [])⟩, ⟨(some 13), none, (.bin .mul
      false (.c (.flt .f32 1073741824)) (.t 12))⟩, ⟨(some 5), none, (.mov (.t 13))⟩] [5]) (.seq (.seq (.reg [⟨(some 14), none, (.mov (.t 5))⟩, ⟨(some 15), none, (.bin .gtr false (.t
      14) (.c (.flt .f32 1056964608)))⟩] [5, 15]) (.cond (.t 15) (.seq (.reg [⟨(some 16), none, (.mov (.t 5))⟩, ⟨(some 17), none, (.bin .sub false (.t 16) (.c (.flt .f32
      1065353216)))⟩, ⟨(some 4), none, (.mov (.t 17))⟩] [4]) .ret) .skip)) (.seq (.seq (.reg [⟨(some 18), none, (.mov (.t 5))⟩, ⟨(some 19), none, (.bin .lss false (.t 18) (.c (.flt
      .f32 3204448256)))⟩] [5, 19]) (.cond (.t 19) (.seq (.reg [⟨(some 20), none, (.mov (.t 5))⟩, ⟨(some 21), none, (.bin .add false (.t 20) (.c (.flt .f32 1065353216)))⟩, ⟨(some
      4), none, (.mov (.t 21))⟩] [4]) .ret) .skip)) (.seq (.reg [⟨(some 22), none, (.mov (.t 5))⟩, ⟨(some 4), none, (.mov (.t 22))⟩] [4]) .ret)))))
def cp55 : CP := { n := 23, kp := [[2, 3], [5], [5, 15], [4], [5, 19], [4], [4]] }
theorem fc55_0 : IntKind.wrap .i64 (-1) = (-1) := by decide
theorem fc55_1 : IntKind.wrap .i64 1 = 1 := by decide
theorem fc55_2 : IntKind.wrap .i64 11 = 11 := by decide
theorem fc55_3 : IntKind.wrap .i64 13 = 13 := by decide
theorem fc55_4 : IntKind.wrap .i64 2 = 2 := by decide
theorem fc55_5 : IntKind.wrap .i64 3 = 3 := by decide
theorem fc55_6 : IntKind.wrap .i64 5 = 5 := by decide
theorem fc55_7 : IntKind.wrap .i64 7 = 7 := by decide
theorem fc55_8 : IntKind.wrap .i64 9 = 9 := by decide
theorem s55 : ∀ vs r, g_spec_l04Hinge vs = some r → Says Try.prog 55 vs r := by
  intro vs r h
  unfold g_spec_l04Hinge at h
  split at h
  · rename_i y0 y1 y2 y3 y4 y5 y6
    split at h
    · rename_i hp
      cases h
      refine spec_of (tab := tabOf [(40, g_spec_l01Inner), (75, g_spec_l01Angle), (76, g_spec_l02Axis)]) (cp := cp55) (ic := ic55) (rvl := [(.t 4)]) hm (tabOk_cons s40 (tabOk_cons s75 (tabOk_cons s76 tabOk_nil))) Try.func55 rfl rfl rfl (by kernel_rfl) rfl (Nat.le_of_ble_eq_true rfl) ?_
      show eA _ _ _ _
      unfold ic55
      simp only [p_spec_l04Hinge, Bool.and_eq_true, Bool.or_eq_true, decide_eq_true_eq, Bool.not_eq_true', decide_eq_false_iff_not] at hp
      simp only [
          hp, eA_seq, eA_reg, eA_ret, eA_skip, eA_cond, eA_block, eA_exit, eCc_true, eCc_false, Kq_normal, Kq_ret, Kq_exit, Kb_normal, Kb_exit, Kb_ret, Kreg_eq, eI_nil, bindSt_some,
                bindSt_none, bindSt_ite, eR_eq, eGI_tt, eGI_ff, eGI_tf, eGI_ft, eop, vop, ev_t, ev_c, ev_f, Option.map, put_some, put_none, set_eq, setH_eq, get_eq, hp_eq,
                keep_cons, keep_nil, lk_cons, lk_nil, startSt, envOf, reduceIte, Nat.reduceEqDiff, Nat.reduceAdd, Nat.zero_add, Nat.add_zero, Nat.reduceMul, Nat.reduceLT,
                Nat.reduceLeDiff, bop, uop, intop, fltop, convop, true_or, or_true, Bool.false_eq_true, ret_ok, ret_normal, outV, rvV, rvs, ex_some, pureV, pureX, pureX.pure1',
                pure1, Bool.true_and, Bool.false_and, Bool.and_true, Bool.and_false, Option.isNone_none, AV.cells, AV.one, storable, laid, refless, refless1, List.all_cons,
                List.all_nil, List.length_cons, List.length_nil, List.getElem?_cons_zero, List.getElem?_cons_succ, List.set_cons_zero, List.set_cons_succ, List.set_nil,
                List.map_cons, List.map_nil, vload, loadC, storeC, vnil, vfaddr, vextract, callTo, List.mapM_cons, List.mapM_nil, Option.pure_def, Option.bind_eq_bind,
                Option.bind_some, tabOf_cons, flatT, flatE, flatC, and_self, and_true, true_and, implies_true, forall_const, not_true_eq_false, not_false_eq_true, false_implies,
                List.take_succ_cons, List.drop_succ_cons, List.take_zero, List.drop_zero, Bool.not_true, Bool.not_false, beq_self_eq_true, decide_true, decide_false, eq_self,
                Int.reduceEq, Int.reduceLE, Int.reduceLT, Bool.not_not, Bool.true_or, Bool.or_true, Bool.false_or, Bool.or_false, if_true, if_false, List.getElem?_nil, Kl_normal,
                Kl_exit, Kl_ret, fc55_0, fc55_1, fc55_2, fc55_3, fc55_4, fc55_5, fc55_6, fc55_7, fc55_8, cast_lit, toNat_lit, Int.reduceAdd, Int.reduceSub, Int.reduceMul,
                Int.reduceNeg, Int.reducePow, Nat.reducePow, Int.reduceToNat, Nat.reduceSub, Nat.mul_one, Int.toNat_zero, prod_eta, List.nil_append, List.cons_append,
                List.append_nil, vconv, vmm, vidxA, viaddrA, iaddr_sl, iaddr_lsl, getE, vfield, vlen, fillC, fillE, List.replicate, elemsOf, List.length_map, f2iK_eq, bits_i64,
                bits_i32, bits_u64, bits_u32, bits_u8, e_mov, g_mov, e_box, g_box, e_load, g_load, e_bin, g_bin, e_faddr, g_faddr, e_call, g_call, g_spec_l01Inner, g_spec_l01Angle,
                g_spec_l02Axis]
      repeat' (first
        | ((first | (refine eGI_of (fun h => ?_) (fun h => ?_)) | (refine eCc_of (fun h => ?_) (fun h => ?_))) <;> (try simp only [Bool.not_eq_true', Bool.not_eq_false'] at h) <;> (try simp only [h, reduceCtorEq, Bool.not_eq_true', decide_eq_false_iff_not, Bool.not_true, Bool.not_false, Bool.false_or, Bool.true_or, Bool.true_and, Bool.false_and, Bool.and_eq_true, Bool.or_eq_true, if_true, if_false, reduceIte, Bool.false_eq_true, and_true, true_and, false_or, or_false, decide_eq_true_eq, not_false_eq_true, not_true_eq_false] at hp) <;> (try (have h2 := h; simp only [decide_eq_true_eq, decide_eq_false_iff_not] at h2; simp only [h2, if_true, if_false, false_or, true_or, or_true, or_false, and_true, true_and, not_false_eq_true, not_true_eq_false] at hp)) <;> simp only [h,
          hp, eA_seq, eA_reg, eA_ret, eA_skip, eA_cond, eA_block, eA_exit, eCc_true, eCc_false, Kq_normal, Kq_ret, Kq_exit, Kb_normal, Kb_exit, Kb_ret, Kreg_eq, eI_nil, bindSt_some,
                bindSt_none, bindSt_ite, eR_eq, eGI_tt, eGI_ff, eGI_tf, eGI_ft, eop, vop, ev_t, ev_c, ev_f, Option.map, put_some, put_none, set_eq, setH_eq, get_eq, hp_eq,
                keep_cons, keep_nil, lk_cons, lk_nil, startSt, envOf, reduceIte, Nat.reduceEqDiff, Nat.reduceAdd, Nat.zero_add, Nat.add_zero, Nat.reduceMul, Nat.reduceLT,
                Nat.reduceLeDiff, bop, uop, intop, fltop, convop, true_or, or_true, Bool.false_eq_true, ret_ok, ret_normal, outV, rvV, rvs, ex_some, pureV, pureX, pureX.pure1',
                pure1, Bool.true_and, Bool.false_and, Bool.and_true, Bool.and_false, Option.isNone_none, AV.cells, AV.one, storable, laid, refless, refless1, List.all_cons,
                List.all_nil, List.length_cons, List.length_nil, List.getElem?_cons_zero, List.getElem?_cons_succ, List.set_cons_zero, List.set_cons_succ, List.set_nil,
                List.map_cons, List.map_nil, vload, loadC, storeC, vnil, vfaddr, vextract, callTo, List.mapM_cons, List.mapM_nil, Option.pure_def, Option.bind_eq_bind,
                Option.bind_some, tabOf_cons, flatT, flatE, flatC, and_self, and_true, true_and, implies_true, forall_const, not_true_eq_false, not_false_eq_true, false_implies,
                List.take_succ_cons, List.drop_succ_cons, List.take_zero, List.drop_zero, Bool.not_true, Bool.not_false, beq_self_eq_true, decide_true, decide_false, eq_self,
                Int.reduceEq, Int.reduceLE, Int.reduceLT, Bool.not_not, Bool.true_or, Bool.or_true, Bool.false_or, Bool.or_false, if_true, if_false, List.getElem?_nil, Kl_normal,
                Kl_exit, Kl_ret, fc55_0, fc55_1, fc55_2, fc55_3, fc55_4, fc55_5, fc55_6, fc55_7, fc55_8, cast_lit, toNat_lit, Int.reduceAdd, Int.reduceSub, Int.reduceMul,
                Int.reduceNeg, Int.reducePow, Nat.reducePow, Int.reduceToNat, Nat.reduceSub, Nat.mul_one, Int.toNat_zero, prod_eta, List.nil_append, List.cons_append,
                List.append_nil, vconv, vmm, vidxA, viaddrA, iaddr_sl, iaddr_lsl, getE, vfield, vlen, fillC, fillE, List.replicate, elemsOf, List.length_map, f2iK_eq, bits_i64,
                bits_i32, bits_u64, bits_u32, bits_u8, e_mov, g_mov, e_box, g_box, e_load, g_load, e_bin, g_bin, e_faddr, g_faddr, e_call, g_call, g_spec_l01Inner, g_spec_l01Angle,
                g_spec_l02Axis]))
      all_goals (try simp only [*, m_spec_l04Hinge, Bool.and_true, Bool.true_and, Bool.and_false, Bool.false_and, Bool.or_true, Bool.true_or, Bool.or_false, Bool.false_or, Bool.not_true, Bool.not_false, Bool.false_eq_true, if_true, if_false, reduceIte, decide_true, decide_false])
      all_goals (try (simp_all; done))
    · cases h
  · cases h
def m_spec_HingeAngle (x0 : (Nat × Nat × Nat × Nat)) (x1 : (Nat × Nat × Nat)) : Nat := (m_spec_l04Hinge x0 x1)
def p_spec_HingeAngle (x0 : (Nat × Nat × Nat × Nat)) (x1 : (Nat × Nat × Nat)) : Bool := (p_spec_l04Hinge x0 x1)
def g_spec_HingeAngle : List AV → Option AV
  | [.agg [.flt .f32 y0, .flt .f32 y1, .flt .f32 y2, .flt .f32 y3], .agg [.flt .f32 y4, .flt .f32 y5, .flt .f32 y6]] => if
      p_spec_HingeAngle (y0, y1, y2, y3) (y4, y5, y6) = true then some (.flt .f32 (m_spec_HingeAngle (y0, y1, y2, y3) (y4, y5, y6))) else none
  | _ => none
def ic21 : ICode := (.seq (.reg [⟨(some 2), none, (.box 4 (.t 0))⟩, ⟨(some 3), none, (.box 3 (.t 1))⟩, ⟨(some 4), none, (.mov (.c (.flt .f32 0)))⟩] [2, 3]) (.seq (.reg [⟨(some 5),
      none, (.load (some 4) (.t 2))⟩, ⟨(some 6), none, (.load (some 3) (.t 3))⟩, ⟨(some 7), none, (.call (.fn 55) [(.t 5), (.t 6)] [])⟩, ⟨(some 4), none, (.mov (.t 7))⟩] [4]) .ret))
def cp21 : CP := { n := 8, kp := [[2, 3], [4]] }
theorem fc21_0 : IntKind.wrap .i64 (-1) = (-1) := by decide
theorem fc21_1 : IntKind.wrap .i64 1 = 1 := by decide
theorem fc21_2 : IntKind.wrap .i64 11 = 11 := by decide
theorem fc21_3 : IntKind.wrap .i64 13 = 13 := by decide
theorem fc21_4 : IntKind.wrap .i64 2 = 2 := by decide
theorem fc21_5 : IntKind.wrap .i64 3 = 3 := by decide
theorem fc21_6 : IntKind.wrap .i64 5 = 5 := by decide
theorem fc21_7 : IntKind.wrap .i64 7 = 7 := by decide
theorem fc21_8 : IntKind.wrap .i64 9 = 9 := by decide
theorem s21 : ∀ vs r, g_spec_HingeAngle vs = some r → Says Try.prog 21 vs r := by
  intro vs r h
  unfold g_spec_HingeAngle at h
  split at h
  · rename_i y0 y1 y2 y3 y4 y5 y6
    split at h
    · rename_i hp
      cases h
      refine spec_of (tab := tabOf [(55, g_spec_l04Hinge)]) (cp := cp21) (ic := ic21) (rvl := [(.t 4)]) hm (tabOk_cons s55 tabOk_nil) Try.func21 rfl rfl rfl (by kernel_rfl) rfl (Nat.le_of_ble_eq_true rfl) ?_
      show eA _ _ _ _
      unfold ic21
      simp only [p_spec_HingeAngle, Bool.and_eq_true, Bool.or_eq_true, decide_eq_true_eq, Bool.not_eq_true', decide_eq_false_iff_not] at hp
      simp only [
          hp, eA_seq, eA_reg, eA_ret, eA_skip, eA_cond, eA_block, eA_exit, eCc_true, eCc_false, Kq_normal, Kq_ret, Kq_exit, Kb_normal, Kb_exit, Kb_ret, Kreg_eq, eI_nil, bindSt_some,
                bindSt_none, bindSt_ite, eR_eq, eGI_tt, eGI_ff, eGI_tf, eGI_ft, eop, vop, ev_t, ev_c, ev_f, Option.map, put_some, put_none, set_eq, setH_eq, get_eq, hp_eq,
                keep_cons, keep_nil, lk_cons, lk_nil, startSt, envOf, reduceIte, Nat.reduceEqDiff, Nat.reduceAdd, Nat.zero_add, Nat.add_zero, Nat.reduceMul, Nat.reduceLT,
                Nat.reduceLeDiff, bop, uop, intop, fltop, convop, true_or, or_true, Bool.false_eq_true, ret_ok, ret_normal, outV, rvV, rvs, ex_some, pureV, pureX, pureX.pure1',
                pure1, Bool.true_and, Bool.false_and, Bool.and_true, Bool.and_false, Option.isNone_none, AV.cells, AV.one, storable, laid, refless, refless1, List.all_cons,
                List.all_nil, List.length_cons, List.length_nil, List.getElem?_cons_zero, List.getElem?_cons_succ, List.set_cons_zero, List.set_cons_succ, List.set_nil,
                List.map_cons, List.map_nil, vload, loadC, storeC, vnil, vfaddr, vextract, callTo, List.mapM_cons, List.mapM_nil, Option.pure_def, Option.bind_eq_bind,
                Option.bind_some, tabOf_cons, flatT, flatE, flatC, and_self, and_true, true_and, implies_true, forall_const, not_true_eq_false, not_false_eq_true, false_implies,
                List.take_succ_cons, List.drop_succ_cons, List.take_zero, List.drop_zero, Bool.not_true, Bool.not_false, beq_self_eq_true, decide_true, decide_false, eq_self,
                Int.reduceEq, Int.reduceLE, Int.reduceLT, Bool.not_not, Bool.true_or, Bool.or_true, Bool.false_or, Bool.or_false, if_true, if_false, List.getElem?_nil, Kl_normal,
                Kl_exit, Kl_ret, fc21_0, fc21_1, fc21_2, fc21_3, fc21_4, fc21_5, fc21_6, fc21_7, fc21_8, cast_lit, toNat_lit, Int.reduceAdd, Int.reduceSub, Int.reduceMul,
                Int.reduceNeg, Int.reducePow, Nat.reducePow, Int.reduceToNat, Nat.reduceSub, Nat.mul_one, Int.toNat_zero, prod_eta, List.nil_append, List.cons_append,
                List.append_nil, vconv, vmm, vidxA, viaddrA, iaddr_sl, iaddr_lsl, getE, vfield, vlen, fillC, fillE, List.replicate, elemsOf, List.length_map, f2iK_eq, bits_i64,
                bits_i32, bits_u64, bits_u32, bits_u8, e_mov, g_mov, e_box, g_box, e_load, g_load, e_call, g_call, g_spec_l04Hinge]
      repeat' (first
        | ((first | (refine eGI_of (fun h => ?_) (fun h => ?_)) | (refine eCc_of (fun h => ?_) (fun h => ?_))) <;> (try simp only [Bool.not_eq_true', Bool.not_eq_false'] at h) <;> (try simp only [h, reduceCtorEq, Bool.not_eq_true', decide_eq_false_iff_not, Bool.not_true, Bool.not_false, Bool.false_or, Bool.true_or, Bool.true_and, Bool.false_and, Bool.and_eq_true, Bool.or_eq_true, if_true, if_false, reduceIte, Bool.false_eq_true, and_true, true_and, false_or, or_false, decide_eq_true_eq, not_false_eq_true, not_true_eq_false] at hp) <;> (try (have h2 := h; simp only [decide_eq_true_eq, decide_eq_false_iff_not] at h2; simp only [h2, if_true, if_false, false_or, true_or, or_true, or_false, and_true, true_and, not_false_eq_true, not_true_eq_false] at hp)) <;> simp only [h,
          hp, eA_seq, eA_reg, eA_ret, eA_skip, eA_cond, eA_block, eA_exit, eCc_true, eCc_false, Kq_normal, Kq_ret, Kq_exit, Kb_normal, Kb_exit, Kb_ret, Kreg_eq, eI_nil, bindSt_some,
                bindSt_none, bindSt_ite, eR_eq, eGI_tt, eGI_ff, eGI_tf, eGI_ft, eop, vop, ev_t, ev_c, ev_f, Option.map, put_some, put_none, set_eq, setH_eq, get_eq, hp_eq,
                keep_cons, keep_nil, lk_cons, lk_nil, startSt, envOf, reduceIte, Nat.reduceEqDiff, Nat.reduceAdd, Nat.zero_add, Nat.add_zero, Nat.reduceMul, Nat.reduceLT,
                Nat.reduceLeDiff, bop, uop, intop, fltop, convop, true_or, or_true, Bool.false_eq_true, ret_ok, ret_normal, outV, rvV, rvs, ex_some, pureV, pureX, pureX.pure1',
                pure1, Bool.true_and, Bool.false_and, Bool.and_true, Bool.and_false, Option.isNone_none, AV.cells, AV.one, storable, laid, refless, refless1, List.all_cons,
                List.all_nil, List.length_cons, List.length_nil, List.getElem?_cons_zero, List.getElem?_cons_succ, List.set_cons_zero, List.set_cons_succ, List.set_nil,
                List.map_cons, List.map_nil, vload, loadC, storeC, vnil, vfaddr, vextract, callTo, List.mapM_cons, List.mapM_nil, Option.pure_def, Option.bind_eq_bind,
                Option.bind_some, tabOf_cons, flatT, flatE, flatC, and_self, and_true, true_and, implies_true, forall_const, not_true_eq_false, not_false_eq_true, false_implies,
                List.take_succ_cons, List.drop_succ_cons, List.take_zero, List.drop_zero, Bool.not_true, Bool.not_false, beq_self_eq_true, decide_true, decide_false, eq_self,
                Int.reduceEq, Int.reduceLE, Int.reduceLT, Bool.not_not, Bool.true_or, Bool.or_true, Bool.false_or, Bool.or_false, if_true, if_false, List.getElem?_nil, Kl_normal,
                Kl_exit, Kl_ret, fc21_0, fc21_1, fc21_2, fc21_3, fc21_4, fc21_5, fc21_6, fc21_7, fc21_8, cast_lit, toNat_lit, Int.reduceAdd, Int.reduceSub, Int.reduceMul,
                Int.reduceNeg, Int.reducePow, Nat.reducePow, Int.reduceToNat, Nat.reduceSub, Nat.mul_one, Int.toNat_zero, prod_eta, List.nil_append, List.cons_append,
                List.append_nil, vconv, vmm, vidxA, viaddrA, iaddr_sl, iaddr_lsl, getE, vfield, vlen, fillC, fillE, List.replicate, elemsOf, List.length_map, f2iK_eq, bits_i64,
                bits_i32, bits_u64, bits_u32, bits_u8, e_mov, g_mov, e_box, g_box, e_load, g_load, e_call, g_call, g_spec_l04Hinge]))
      all_goals (try simp only [*, m_spec_HingeAngle, Bool.and_true, Bool.true_and, Bool.and_false, Bool.false_and, Bool.or_true, Bool.true_or, Bool.or_false, Bool.false_or, Bool.not_true, Bool.not_false, Bool.false_eq_true, if_true, if_false, reduceIte, decide_true, decide_false])
      all_goals (try (simp_all; done))
    · cases h
  · cases h
def m_impl_Turn_vector (x0 : (Nat × Nat × Nat × Nat)) : (Nat × Nat × Nat) := (x0.2.1, x0.2.2.1, x0.2.2.2)
def g_impl_Turn_vector : List AV → Option AV
  | [.agg [.flt .f32 y0, .flt .f32 y1, .flt .f32 y2, .flt .f32 y3]] => some (AV.agg [(.flt .f32 (m_impl_Turn_vector (y0, y1, y2,
      y3)).1), (.flt .f32 (m_impl_Turn_vector (y0, y1, y2, y3)).2.1), (.flt .f32 (m_impl_Turn_vector (y0, y1, y2, y3)).2.2)])
  | _ => none
def ic57 : ICode := (.seq (.reg [⟨(some 1), none, (.box 4 (.t 0))⟩, ⟨(some 2), none, (.alloc (.agg [(.flt .f32 0), (.flt .f32 0), (.flt .f32 0)]))⟩] [1, 2]) (.seq (.reg [⟨(some 3),
      none, (.faddr 1 (.t 1))⟩, ⟨(some 4), none, (.load none (.t 3))⟩, ⟨(some 5), none, (.faddr 2 (.t 1))⟩, ⟨(some 6), none, (.load none (.t 5))⟩, ⟨(some 7), none, (.faddr 3 (.t
      1))⟩, ⟨(some 8), none, (.load none (.t 7))⟩, ⟨(some 9), none, (.build [(.flt .f32 0), (.flt .f32 0), (.flt .f32 0)] [(0, 1, (.t 4)), (1, 1, (.t 6)), (2, 1, (.t 8))])⟩, ⟨none,
      none, (.store 3 (.t 2) (.t 9))⟩] [2]) .ret))
def cp57 : CP := { n := 10, kp := [[1, 2], [2]] }
theorem fc57_0 : IntKind.wrap .i64 (-1) = (-1) := by decide
theorem fc57_1 : IntKind.wrap .i64 1 = 1 := by decide
theorem fc57_2 : IntKind.wrap .i64 11 = 11 := by decide
theorem fc57_3 : IntKind.wrap .i64 13 = 13 := by decide
theorem fc57_4 : IntKind.wrap .i64 2 = 2 := by decide
theorem fc57_5 : IntKind.wrap .i64 3 = 3 := by decide
theorem fc57_6 : IntKind.wrap .i64 5 = 5 := by decide
theorem fc57_7 : IntKind.wrap .i64 7 = 7 := by decide
theorem fc57_8 : IntKind.wrap .i64 9 = 9 := by decide
theorem s57 : ∀ vs r, g_impl_Turn_vector vs = some r → Says Try.prog 57 vs r := by
  intro vs r h
  unfold g_impl_Turn_vector at h
  split at h
  · rename_i y0 y1 y2 y3
    cases h
    refine spec_of (tab := tabOf []) (cp := cp57) (ic := ic57) (rvl := [(.c 2 (some 3))]) hm tabOk_nil Try.func57 rfl rfl rfl (by kernel_rfl) rfl (Nat.le_of_ble_eq_true rfl) ?_
    show eA _ _ _ _
    unfold ic57
    simp only [
        eA_seq, eA_reg, eA_ret, eA_skip, eA_cond, eA_block, eA_exit, eCc_true, eCc_false, Kq_normal, Kq_ret, Kq_exit, Kb_normal, Kb_exit, Kb_ret, Kreg_eq, eI_nil, bindSt_some,
              bindSt_none, bindSt_ite, eR_eq, eGI_tt, eGI_ff, eGI_tf, eGI_ft, eop, vop, ev_t, ev_c, ev_f, Option.map, put_some, put_none, set_eq, setH_eq, get_eq, hp_eq, keep_cons,
              keep_nil, lk_cons, lk_nil, startSt, envOf, reduceIte, Nat.reduceEqDiff, Nat.reduceAdd, Nat.zero_add, Nat.add_zero, Nat.reduceMul, Nat.reduceLT, Nat.reduceLeDiff, bop,
              uop, intop, fltop, convop, true_or, or_true, Bool.false_eq_true, ret_ok, ret_normal, outV, rvV, rvs, ex_some, pureV, pureX, pureX.pure1', pure1, Bool.true_and,
              Bool.false_and, Bool.and_true, Bool.and_false, Option.isNone_none, AV.cells, AV.one, storable, laid, refless, refless1, List.all_cons, List.all_nil, List.length_cons,
              List.length_nil, List.getElem?_cons_zero, List.getElem?_cons_succ, List.set_cons_zero, List.set_cons_succ, List.set_nil, List.map_cons, List.map_nil, vload, loadC,
              storeC, vnil, vfaddr, vextract, callTo, List.mapM_cons, List.mapM_nil, Option.pure_def, Option.bind_eq_bind, Option.bind_some, tabOf_cons, flatT, flatE, flatC,
              and_self, and_true, true_and, implies_true, forall_const, not_true_eq_false, not_false_eq_true, false_implies, List.take_succ_cons, List.drop_succ_cons,
              List.take_zero, List.drop_zero, Bool.not_true, Bool.not_false, beq_self_eq_true, decide_true, decide_false, eq_self, Int.reduceEq, Int.reduceLE, Int.reduceLT,
              Bool.not_not, Bool.true_or, Bool.or_true, Bool.false_or, Bool.or_false, if_true, if_false, List.getElem?_nil, Kl_normal, Kl_exit, Kl_ret, fc57_0, fc57_1, fc57_2,
              fc57_3, fc57_4, fc57_5, fc57_6, fc57_7, fc57_8, cast_lit, toNat_lit, Int.reduceAdd, Int.reduceSub, Int.reduceMul, Int.reduceNeg, Int.reducePow, Nat.reducePow,
              Int.reduceToNat, Nat.reduceSub, Nat.mul_one, Int.toNat_zero, prod_eta, List.nil_append, List.cons_append, List.append_nil, vconv, vmm, vidxA, viaddrA, iaddr_sl,
              iaddr_lsl, getE, vfield, vlen, fillC, fillE, List.replicate, elemsOf, List.length_map, f2iK_eq, bits_i64, bits_i32, bits_u64, bits_u32, bits_u8, e_alloc, g_alloc,
              e_box, g_box, e_build, g_build, e_load, g_load, e_store, g_store, e_faddr, g_faddr]
    repeat' (first
      | ((first | (refine eGI_of (fun h => ?_) (fun h => ?_)) | (refine eCc_of (fun h => ?_) (fun h => ?_))) <;> (try simp only [Bool.not_eq_true', Bool.not_eq_false'] at h) <;> simp only [h,
        eA_seq, eA_reg, eA_ret, eA_skip, eA_cond, eA_block, eA_exit, eCc_true, eCc_false, Kq_normal, Kq_ret, Kq_exit, Kb_normal, Kb_exit, Kb_ret, Kreg_eq, eI_nil, bindSt_some,
              bindSt_none, bindSt_ite, eR_eq, eGI_tt, eGI_ff, eGI_tf, eGI_ft, eop, vop, ev_t, ev_c, ev_f, Option.map, put_some, put_none, set_eq, setH_eq, get_eq, hp_eq, keep_cons,
              keep_nil, lk_cons, lk_nil, startSt, envOf, reduceIte, Nat.reduceEqDiff, Nat.reduceAdd, Nat.zero_add, Nat.add_zero, Nat.reduceMul, Nat.reduceLT, Nat.reduceLeDiff, bop,
              uop, intop, fltop, convop, true_or, or_true, Bool.false_eq_true, ret_ok, ret_normal, outV, rvV, rvs, ex_some, pureV, pureX, pureX.pure1', pure1, Bool.true_and,
              Bool.false_and, Bool.and_true, Bool.and_false, Option.isNone_none, AV.cells, AV.one, storable, laid, refless, refless1, List.all_cons, List.all_nil, List.length_cons,
              List.length_nil, List.getElem?_cons_zero, List.getElem?_cons_succ, List.set_cons_zero, List.set_cons_succ, List.set_nil, List.map_cons, List.map_nil, vload, loadC,
              storeC, vnil, vfaddr, vextract, callTo, List.mapM_cons, List.mapM_nil, Option.pure_def, Option.bind_eq_bind, Option.bind_some, tabOf_cons, flatT, flatE, flatC,
              and_self, and_true, true_and, implies_true, forall_const, not_true_eq_false, not_false_eq_true, false_implies, List.take_succ_cons, List.drop_succ_cons,
              List.take_zero, List.drop_zero, Bool.not_true, Bool.not_false, beq_self_eq_true, decide_true, decide_false, eq_self, Int.reduceEq, Int.reduceLE, Int.reduceLT,
              Bool.not_not, Bool.true_or, Bool.or_true, Bool.false_or, Bool.or_false, if_true, if_false, List.getElem?_nil, Kl_normal, Kl_exit, Kl_ret, fc57_0, fc57_1, fc57_2,
              fc57_3, fc57_4, fc57_5, fc57_6, fc57_7, fc57_8, cast_lit, toNat_lit, Int.reduceAdd, Int.reduceSub, Int.reduceMul, Int.reduceNeg, Int.reducePow, Nat.reducePow,
              Int.reduceToNat, Nat.reduceSub, Nat.mul_one, Int.toNat_zero, prod_eta, List.nil_append, List.cons_append, List.append_nil, vconv, vmm, vidxA, viaddrA, iaddr_sl,
              iaddr_lsl, getE, vfield, vlen, fillC, fillE, List.replicate, elemsOf, List.length_map, f2iK_eq, bits_i64, bits_i32, bits_u64, bits_u32, bits_u8, e_alloc, g_alloc,
              e_box, g_box, e_build, g_build, e_load, g_load, e_store, g_store, e_faddr, g_faddr]))
    all_goals (try simp only [*, m_impl_Turn_vector, Bool.and_true, Bool.true_and, Bool.and_false, Bool.false_and, Bool.or_true, Bool.true_or, Bool.or_false, Bool.false_or, Bool.not_true, Bool.not_false, Bool.false_eq_true, if_true, if_false, reduceIte, decide_true, decide_false])
    all_goals (try (simp_all; done))
  · cases h
def m_impl_InnerOf (x0 : (Nat × Nat × Nat)) (x1 : (Nat × Nat × Nat)) : Nat := (fadd .f32 (fadd .f32 (fmul .f32 x0.1 x1.1) (fmul .f32 x0.2.1 x1.2.1)) (fmul .f32 x0.2.2 x1.2.2))
def g_impl_InnerOf : List AV → Option AV
  | [.agg [.flt .f32 y0, .flt .f32 y1, .flt .f32 y2], .agg [.flt .f32 y3, .flt .f32 y4, .flt .f32 y5]] => some (.flt .f32 (m_impl_InnerOf
      (y0, y1, y2) (y3, y4, y5)))
  | _ => none
def ic49 : ICode := (.seq (.reg [⟨(some 2), none, (.box 3 (.t 0))⟩, ⟨(some 3), none, (.box 3 (.t 1))⟩, ⟨(some 4), none, (.mov (.c (.flt .f32 0)))⟩] [2, 3]) (.seq (.reg [⟨(some 5),
      none, (.faddr 0 (.t 2))⟩, ⟨(some 6), none, (.load none (.t 5))⟩, ⟨(some 7), none, (.faddr 0 (.t 3))⟩, ⟨(some 8), none, (.load none (.t 7))⟩, ⟨(some 9), none, (.bin .mul false
      (.t 6) (.t 8))⟩, ⟨(some 10), none, (.faddr 1 (.t 2))⟩, ⟨(some 11), none, (.load none (.t 10))⟩, ⟨(some 12), none, (.faddr 1 (.t 3))⟩, ⟨(some 13), none, (.load none (.t 12))⟩,
      ⟨(some 14), none, (.bin .mul false (.t 11) (.t 13))⟩, ⟨(some 15), none, (.bin .add false (.t 9) (.t 14))⟩, ⟨(some 16), none, (.faddr 2 (.t 2))⟩, ⟨(some 17), none, (.load none
      (.t 16))⟩, ⟨(some 18), none, (.faddr 2 (.t 3))⟩, ⟨(some 19), none, (.load none (.t 18))⟩, ⟨(some 20), none, (.bin .mul false (.t 17) (.t 19))⟩, ⟨(some 21), none, (.bin .add
      false (.t 15) (.t 20))⟩, ⟨(some 4), none, (.mov (.t 21))⟩] [4]) .ret))
def cp49 : CP := { n := 22, kp := [[2, 3], [4]] }
theorem fc49_0 : IntKind.wrap .i64 (-1) = (-1) := by decide
theorem fc49_1 : IntKind.wrap .i64 1 = 1 := by decide
theorem fc49_2 : IntKind.wrap .i64 11 = 11 := by decide
theorem fc49_3 : IntKind.wrap .i64 13 = 13 := by decide
theorem fc49_4 : IntKind.wrap .i64 2 = 2 := by decide
theorem fc49_5 : IntKind.wrap .i64 3 = 3 := by decide
theorem fc49_6 : IntKind.wrap .i64 5 = 5 := by decide
theorem fc49_7 : IntKind.wrap .i64 7 = 7 := by decide
theorem fc49_8 : IntKind.wrap .i64 9 = 9 := by decide
theorem s49 : ∀ vs r, g_impl_InnerOf vs = some r → Says Try.prog 49 vs r := by
  intro vs r h
  unfold g_impl_InnerOf at h
  split at h
  · rename_i y0 y1 y2 y3 y4 y5
    cases h
    refine spec_of (tab := tabOf []) (cp := cp49) (ic := ic49) (rvl := [(.t 4)]) hm tabOk_nil Try.func49 rfl rfl rfl (by kernel_rfl) rfl (Nat.le_of_ble_eq_true rfl) ?_
    show eA _ _ _ _
    unfold ic49
    simp only [
        eA_seq, eA_reg, eA_ret, eA_skip, eA_cond, eA_block, eA_exit, eCc_true, eCc_false, Kq_normal, Kq_ret, Kq_exit, Kb_normal, Kb_exit, Kb_ret, Kreg_eq, eI_nil, bindSt_some,
              bindSt_none, bindSt_ite, eR_eq, eGI_tt, eGI_ff, eGI_tf, eGI_ft, eop, vop, ev_t, ev_c, ev_f, Option.map, put_some, put_none, set_eq, setH_eq, get_eq, hp_eq, keep_cons,
              keep_nil, lk_cons, lk_nil, startSt, envOf, reduceIte, Nat.reduceEqDiff, Nat.reduceAdd, Nat.zero_add, Nat.add_zero, Nat.reduceMul, Nat.reduceLT, Nat.reduceLeDiff, bop,
              uop, intop, fltop, convop, true_or, or_true, Bool.false_eq_true, ret_ok, ret_normal, outV, rvV, rvs, ex_some, pureV, pureX, pureX.pure1', pure1, Bool.true_and,
              Bool.false_and, Bool.and_true, Bool.and_false, Option.isNone_none, AV.cells, AV.one, storable, laid, refless, refless1, List.all_cons, List.all_nil, List.length_cons,
              List.length_nil, List.getElem?_cons_zero, List.getElem?_cons_succ, List.set_cons_zero, List.set_cons_succ, List.set_nil, List.map_cons, List.map_nil, vload, loadC,
              storeC, vnil, vfaddr, vextract, callTo, List.mapM_cons, List.mapM_nil, Option.pure_def, Option.bind_eq_bind, Option.bind_some, tabOf_cons, flatT, flatE, flatC,
              and_self, and_true, true_and, implies_true, forall_const, not_true_eq_false, not_false_eq_true, false_implies, List.take_succ_cons, List.drop_succ_cons,
              List.take_zero, List.drop_zero, Bool.not_true, Bool.not_false, beq_self_eq_true, decide_true, decide_false, eq_self, Int.reduceEq, Int.reduceLE, Int.reduceLT,
              Bool.not_not, Bool.true_or, Bool.or_true, Bool.false_or, Bool.or_false, if_true, if_false, List.getElem?_nil, Kl_normal, Kl_exit, Kl_ret, fc49_0, fc49_1, fc49_2,
              fc49_3, fc49_4, fc49_5, fc49_6, fc49_7, fc49_8, cast_lit, toNat_lit, Int.reduceAdd, Int.reduceSub, Int.reduceMul, Int.reduceNeg, Int.reducePow, Nat.reducePow,
              Int.reduceToNat, Nat.reduceSub, Nat.mul_one, Int.toNat_zero, prod_eta, List.nil_append, List.cons_append, List.append_nil, vconv, vmm, vidxA, viaddrA, iaddr_sl,
              iaddr_lsl, getE, vfield, vlen, fillC, fillE, List.replicate, elemsOf, List.length_map, f2iK_eq, bits_i64, bits_i32, bits_u64, bits_u32, bits_u8, e_mov, g_mov, e_box,
              g_box, e_load, g_load, e_bin, g_bin, e_faddr, g_faddr]
    repeat' (first
      | ((first | (refine eGI_of (fun h => ?_) (fun h => ?_)) | (refine eCc_of (fun h => ?_) (fun h => ?_))) <;> (try simp only [Bool.not_eq_true', Bool.not_eq_false'] at h) <;> simp only [h,
        eA_seq, eA_reg, eA_ret, eA_skip, eA_cond, eA_block, eA_exit, eCc_true, eCc_false, Kq_normal, Kq_ret, Kq_exit, Kb_normal, Kb_exit, Kb_ret, Kreg_eq, eI_nil, bindSt_some,
              bindSt_none, bindSt_ite, eR_eq, eGI_tt, eGI_ff, eGI_tf, eGI_ft, eop, vop, ev_t, ev_c, ev_f, Option.map, put_some, put_none, set_eq, setH_eq, get_eq, hp_eq, keep_cons,
              keep_nil, lk_cons, lk_nil, startSt, envOf, reduceIte, Nat.reduceEqDiff, Nat.reduceAdd, Nat.zero_add, Nat.add_zero, Nat.reduceMul, Nat.reduceLT, Nat.reduceLeDiff, bop,
              uop, intop, fltop, convop, true_or, or_true, Bool.false_eq_true, ret_ok, ret_normal, outV, rvV, rvs, ex_some, pureV, pureX, pureX.pure1', pure1, Bool.true_and,
              Bool.false_and, Bool.and_true, Bool.and_false, Option.isNone_none, AV.cells, AV.one, storable, laid, refless, refless1, List.all_cons, List.all_nil, List.length_cons,
              List.length_nil, List.getElem?_cons_zero, List.getElem?_cons_succ, List.set_cons_zero, List.set_cons_succ, List.set_nil, List.map_cons, List.map_nil, vload, loadC,
              storeC, vnil, vfaddr, vextract, callTo, List.mapM_cons, List.mapM_nil, Option.pure_def, Option.bind_eq_bind, Option.bind_some, tabOf_cons, flatT, flatE, flatC,
              and_self, and_true, true_and, implies_true, forall_const, not_true_eq_false, not_false_eq_true, false_implies, List.take_succ_cons, List.drop_succ_cons,
              List.take_zero, List.drop_zero, Bool.not_true, Bool.not_false, beq_self_eq_true, decide_true, decide_false, eq_self, Int.reduceEq, Int.reduceLE, Int.reduceLT,
              Bool.not_not, Bool.true_or, Bool.or_true, Bool.false_or, Bool.or_false, if_true, if_false, List.getElem?_nil, Kl_normal, Kl_exit, Kl_ret, fc49_0, fc49_1, fc49_2,
              fc49_3, fc49_4, fc49_5, fc49_6, fc49_7, fc49_8, cast_lit, toNat_lit, Int.reduceAdd, Int.reduceSub, Int.reduceMul, Int.reduceNeg, Int.reducePow, Nat.reducePow,
              Int.reduceToNat, Nat.reduceSub, Nat.mul_one, Int.toNat_zero, prod_eta, List.nil_append, List.cons_append, List.append_nil, vconv, vmm, vidxA, viaddrA, iaddr_sl,
              iaddr_lsl, getE, vfield, vlen, fillC, fillE, List.replicate, elemsOf, List.length_map, f2iK_eq, bits_i64, bits_i32, bits_u64, bits_u32, bits_u8, e_mov, g_mov, e_box,
              g_box, e_load, g_load, e_bin, g_bin, e_faddr, g_faddr]))
    all_goals (try simp only [*, m_impl_InnerOf, Bool.and_true, Bool.true_and, Bool.and_false, Bool.false_and, Bool.or_true, Bool.true_or, Bool.or_false, Bool.false_or, Bool.not_true, Bool.not_false, Bool.false_eq_true, if_true, if_false, reduceIte, decide_true, decide_false])
    all_goals (try (simp_all; done))
  · cases h
def m_impl_IsFinite (x0 : Nat) : Bool := (feq .f32 (fsub .f32 x0 x0) 0)
def g_impl_IsFinite : List AV → Option AV
  | [.flt .f32 y0] => some (.bool (m_impl_IsFinite y0))
  | _ => none
def ic51 : ICode := (.seq (.reg [⟨(some 2), none, (.mov (.c (.bool false)))⟩] [0]) (.seq (.reg [⟨(some 3), none, (.mov (.t 0))⟩, ⟨(some 4), none, (.mov (.t 0))⟩, ⟨(some 5), none,
      (.bin .sub false (.t 3) (.t 4))⟩, ⟨(some 6), none, (.bin .eql false (.t 5) (.c (.flt .f32 0)))⟩, ⟨(some 2), none, (.mov (.t 6))⟩] [2]) .ret))
def cp51 : CP := { n := 7, kp := [[0], [2]] }
theorem fc51_0 : IntKind.wrap .i64 (-1) = (-1) := by decide
theorem fc51_1 : IntKind.wrap .i64 1 = 1 := by decide
theorem fc51_2 : IntKind.wrap .i64 11 = 11 := by decide
theorem fc51_3 : IntKind.wrap .i64 13 = 13 := by decide
theorem fc51_4 : IntKind.wrap .i64 2 = 2 := by decide
theorem fc51_5 : IntKind.wrap .i64 3 = 3 := by decide
theorem fc51_6 : IntKind.wrap .i64 5 = 5 := by decide
theorem fc51_7 : IntKind.wrap .i64 7 = 7 := by decide
theorem fc51_8 : IntKind.wrap .i64 9 = 9 := by decide
theorem s51 : ∀ vs r, g_impl_IsFinite vs = some r → Says Try.prog 51 vs r := by
  intro vs r h
  unfold g_impl_IsFinite at h
  split at h
  · rename_i y0
    cases h
    refine spec_of (tab := tabOf []) (cp := cp51) (ic := ic51) (rvl := [(.t 2)]) hm tabOk_nil Try.func51 rfl rfl rfl (by kernel_rfl) rfl (Nat.le_of_ble_eq_true rfl) ?_
    show eA _ _ _ _
    unfold ic51
    simp only [
        eA_seq, eA_reg, eA_ret, eA_skip, eA_cond, eA_block, eA_exit, eCc_true, eCc_false, Kq_normal, Kq_ret, Kq_exit, Kb_normal, Kb_exit, Kb_ret, Kreg_eq, eI_nil, bindSt_some,
              bindSt_none, bindSt_ite, eR_eq, eGI_tt, eGI_ff, eGI_tf, eGI_ft, eop, vop, ev_t, ev_c, ev_f, Option.map, put_some, put_none, set_eq, setH_eq, get_eq, hp_eq, keep_cons,
              keep_nil, lk_cons, lk_nil, startSt, envOf, reduceIte, Nat.reduceEqDiff, Nat.reduceAdd, Nat.zero_add, Nat.add_zero, Nat.reduceMul, Nat.reduceLT, Nat.reduceLeDiff, bop,
              uop, intop, fltop, convop, true_or, or_true, Bool.false_eq_true, ret_ok, ret_normal, outV, rvV, rvs, ex_some, pureV, pureX, pureX.pure1', pure1, Bool.true_and,
              Bool.false_and, Bool.and_true, Bool.and_false, Option.isNone_none, AV.cells, AV.one, storable, laid, refless, refless1, List.all_cons, List.all_nil, List.length_cons,
              List.length_nil, List.getElem?_cons_zero, List.getElem?_cons_succ, List.set_cons_zero, List.set_cons_succ, List.set_nil, List.map_cons, List.map_nil, vload, loadC,
              storeC, vnil, vfaddr, vextract, callTo, List.mapM_cons, List.mapM_nil, Option.pure_def, Option.bind_eq_bind, Option.bind_some, tabOf_cons, flatT, flatE, flatC,
              and_self, and_true, true_and, implies_true, forall_const, not_true_eq_false, not_false_eq_true, false_implies, List.take_succ_cons, List.drop_succ_cons,
              List.take_zero, List.drop_zero, Bool.not_true, Bool.not_false, beq_self_eq_true, decide_true, decide_false, eq_self, Int.reduceEq, Int.reduceLE, Int.reduceLT,
              Bool.not_not, Bool.true_or, Bool.or_true, Bool.false_or, Bool.or_false, if_true, if_false, List.getElem?_nil, Kl_normal, Kl_exit, Kl_ret, fc51_0, fc51_1, fc51_2,
              fc51_3, fc51_4, fc51_5, fc51_6, fc51_7, fc51_8, cast_lit, toNat_lit, Int.reduceAdd, Int.reduceSub, Int.reduceMul, Int.reduceNeg, Int.reducePow, Nat.reducePow,
              Int.reduceToNat, Nat.reduceSub, Nat.mul_one, Int.toNat_zero, prod_eta, List.nil_append, List.cons_append, List.append_nil, vconv, vmm, vidxA, viaddrA, iaddr_sl,
              iaddr_lsl, getE, vfield, vlen, fillC, fillE, List.replicate, elemsOf, List.length_map, f2iK_eq, bits_i64, bits_i32, bits_u64, bits_u32, bits_u8, e_mov, g_mov, e_bin,
              g_bin]
    repeat' (first
      | ((first | (refine eGI_of (fun h => ?_) (fun h => ?_)) | (refine eCc_of (fun h => ?_) (fun h => ?_))) <;> (try simp only [Bool.not_eq_true', Bool.not_eq_false'] at h) <;> simp only [h,
        eA_seq, eA_reg, eA_ret, eA_skip, eA_cond, eA_block, eA_exit, eCc_true, eCc_false, Kq_normal, Kq_ret, Kq_exit, Kb_normal, Kb_exit, Kb_ret, Kreg_eq, eI_nil, bindSt_some,
              bindSt_none, bindSt_ite, eR_eq, eGI_tt, eGI_ff, eGI_tf, eGI_ft, eop, vop, ev_t, ev_c, ev_f, Option.map, put_some, put_none, set_eq, setH_eq, get_eq, hp_eq, keep_cons,
              keep_nil, lk_cons, lk_nil, startSt, envOf, reduceIte, Nat.reduceEqDiff, Nat.reduceAdd, Nat.zero_add, Nat.add_zero, Nat.reduceMul, Nat.reduceLT, Nat.reduceLeDiff, bop,
              uop, intop, fltop, convop, true_or, or_true, Bool.false_eq_true, ret_ok, ret_normal, outV, rvV, rvs, ex_some, pureV, pureX, pureX.pure1', pure1, Bool.true_and,
              Bool.false_and, Bool.and_true, Bool.and_false, Option.isNone_none, AV.cells, AV.one, storable, laid, refless, refless1, List.all_cons, List.all_nil, List.length_cons,
              List.length_nil, List.getElem?_cons_zero, List.getElem?_cons_succ, List.set_cons_zero, List.set_cons_succ, List.set_nil, List.map_cons, List.map_nil, vload, loadC,
              storeC, vnil, vfaddr, vextract, callTo, List.mapM_cons, List.mapM_nil, Option.pure_def, Option.bind_eq_bind, Option.bind_some, tabOf_cons, flatT, flatE, flatC,
              and_self, and_true, true_and, implies_true, forall_const, not_true_eq_false, not_false_eq_true, false_implies, List.take_succ_cons, List.drop_succ_cons,
              List.take_zero, List.drop_zero, Bool.not_true, Bool.not_false, beq_self_eq_true, decide_true, decide_false, eq_self, Int.reduceEq, Int.reduceLE, Int.reduceLT,
              Bool.not_not, Bool.true_or, Bool.or_true, Bool.false_or, Bool.or_false, if_true, if_false, List.getElem?_nil, Kl_normal, Kl_exit, Kl_ret, fc51_0, fc51_1, fc51_2,
              fc51_3, fc51_4, fc51_5, fc51_6, fc51_7, fc51_8, cast_lit, toNat_lit, Int.reduceAdd, Int.reduceSub, Int.reduceMul, Int.reduceNeg, Int.reducePow, Nat.reducePow,
              Int.reduceToNat, Nat.reduceSub, Nat.mul_one, Int.toNat_zero, prod_eta, List.nil_append, List.cons_append, List.append_nil, vconv, vmm, vidxA, viaddrA, iaddr_sl,
              iaddr_lsl, getE, vfield, vlen, fillC, fillE, List.replicate, elemsOf, List.length_map, f2iK_eq, bits_i64, bits_i32, bits_u64, bits_u32, bits_u8, e_mov, g_mov, e_bin,
              g_bin]))
    all_goals (try simp only [*, m_impl_IsFinite, Bool.and_true, Bool.true_and, Bool.and_false, Bool.false_and, Bool.or_true, Bool.true_or, Bool.or_false, Bool.false_or, Bool.not_true, Bool.not_false, Bool.false_eq_true, if_true, if_false, reduceIte, decide_true, decide_false])
    all_goals (try (simp_all; done))
  · cases h
def m_impl_notNumber  : Nat := (narrow (m_math_NaN))
def p_impl_notNumber  : Bool := (narrowOk (m_math_NaN))
def g_impl_notNumber : List AV → Option AV
  | [] => if p_impl_notNumber = true then some (.flt .f32 (m_impl_notNumber)) else none
  | _ => none
def ic77 : ICode := (.seq (.reg [⟨(some 0), none, (.mov (.c (.flt .f32 0)))⟩] []) (.seq (.reg [⟨(some 1), none, (.call (.fn 73) [] [])⟩, ⟨(some 2), none, (.conv (.flt .f32) (.t
      1))⟩, ⟨(some 0), none, (.mov (.t 2))⟩] [0]) .ret))
def cp77 : CP := { n := 3, kp := [[], [0]] }
theorem fc77_0 : IntKind.wrap .i64 (-1) = (-1) := by decide
theorem fc77_1 : IntKind.wrap .i64 1 = 1 := by decide
theorem fc77_2 : IntKind.wrap .i64 11 = 11 := by decide
theorem fc77_3 : IntKind.wrap .i64 13 = 13 := by decide
theorem fc77_4 : IntKind.wrap .i64 2 = 2 := by decide
theorem fc77_5 : IntKind.wrap .i64 3 = 3 := by decide
theorem fc77_6 : IntKind.wrap .i64 5 = 5 := by decide
theorem fc77_7 : IntKind.wrap .i64 7 = 7 := by decide
theorem fc77_8 : IntKind.wrap .i64 9 = 9 := by decide
theorem s77 : ∀ vs r, g_impl_notNumber vs = some r → Says Try.prog 77 vs r := by
  intro vs r h
  unfold g_impl_notNumber at h
  split at h
  · split at h
    · rename_i hp
      cases h
      refine spec_of (tab := tabOf [(73, g_math_NaN)]) (cp := cp77) (ic := ic77) (rvl := [(.t 0)]) hm (tabOk_cons s73 tabOk_nil) Try.func77 rfl rfl rfl (by kernel_rfl) rfl (Nat.le_of_ble_eq_true rfl) ?_
      show eA _ _ _ _
      unfold ic77
      simp only [p_impl_notNumber, Bool.and_eq_true, Bool.or_eq_true, decide_eq_true_eq, Bool.not_eq_true', decide_eq_false_iff_not] at hp
      simp only [
          hp, eA_seq, eA_reg, eA_ret, eA_skip, eA_cond, eA_block, eA_exit, eCc_true, eCc_false, Kq_normal, Kq_ret, Kq_exit, Kb_normal, Kb_exit, Kb_ret, Kreg_eq, eI_nil, bindSt_some,
                bindSt_none, bindSt_ite, eR_eq, eGI_tt, eGI_ff, eGI_tf, eGI_ft, eop, vop, ev_t, ev_c, ev_f, Option.map, put_some, put_none, set_eq, setH_eq, get_eq, hp_eq,
                keep_cons, keep_nil, lk_cons, lk_nil, startSt, envOf, reduceIte, Nat.reduceEqDiff, Nat.reduceAdd, Nat.zero_add, Nat.add_zero, Nat.reduceMul, Nat.reduceLT,
                Nat.reduceLeDiff, bop, uop, intop, fltop, convop, true_or, or_true, Bool.false_eq_true, ret_ok, ret_normal, outV, rvV, rvs, ex_some, pureV, pureX, pureX.pure1',
                pure1, Bool.true_and, Bool.false_and, Bool.and_true, Bool.and_false, Option.isNone_none, AV.cells, AV.one, storable, laid, refless, refless1, List.all_cons,
                List.all_nil, List.length_cons, List.length_nil, List.getElem?_cons_zero, List.getElem?_cons_succ, List.set_cons_zero, List.set_cons_succ, List.set_nil,
                List.map_cons, List.map_nil, vload, loadC, storeC, vnil, vfaddr, vextract, callTo, List.mapM_cons, List.mapM_nil, Option.pure_def, Option.bind_eq_bind,
                Option.bind_some, tabOf_cons, flatT, flatE, flatC, and_self, and_true, true_and, implies_true, forall_const, not_true_eq_false, not_false_eq_true, false_implies,
                List.take_succ_cons, List.drop_succ_cons, List.take_zero, List.drop_zero, Bool.not_true, Bool.not_false, beq_self_eq_true, decide_true, decide_false, eq_self,
                Int.reduceEq, Int.reduceLE, Int.reduceLT, Bool.not_not, Bool.true_or, Bool.or_true, Bool.false_or, Bool.or_false, if_true, if_false, List.getElem?_nil, Kl_normal,
                Kl_exit, Kl_ret, fc77_0, fc77_1, fc77_2, fc77_3, fc77_4, fc77_5, fc77_6, fc77_7, fc77_8, cast_lit, toNat_lit, Int.reduceAdd, Int.reduceSub, Int.reduceMul,
                Int.reduceNeg, Int.reducePow, Nat.reducePow, Int.reduceToNat, Nat.reduceSub, Nat.mul_one, Int.toNat_zero, prod_eta, List.nil_append, List.cons_append,
                List.append_nil, vconv, vmm, vidxA, viaddrA, iaddr_sl, iaddr_lsl, getE, vfield, vlen, fillC, fillE, List.replicate, elemsOf, List.length_map, f2iK_eq, bits_i64,
                bits_i32, bits_u64, bits_u32, bits_u8, e_mov, g_mov, e_conv, g_conv, e_call, g_call, g_math_NaN]
      repeat' (first
        | ((first | (refine eGI_of (fun h => ?_) (fun h => ?_)) | (refine eCc_of (fun h => ?_) (fun h => ?_))) <;> (try simp only [Bool.not_eq_true', Bool.not_eq_false'] at h) <;> (try simp only [h, reduceCtorEq, Bool.not_eq_true', decide_eq_false_iff_not, Bool.not_true, Bool.not_false, Bool.false_or, Bool.true_or, Bool.true_and, Bool.false_and, Bool.and_eq_true, Bool.or_eq_true, if_true, if_false, reduceIte, Bool.false_eq_true, and_true, true_and, false_or, or_false, decide_eq_true_eq, not_false_eq_true, not_true_eq_false] at hp) <;> (try (have h2 := h; simp only [decide_eq_true_eq, decide_eq_false_iff_not] at h2; simp only [h2, if_true, if_false, false_or, true_or, or_true, or_false, and_true, true_and, not_false_eq_true, not_true_eq_false] at hp)) <;> simp only [h,
          hp, eA_seq, eA_reg, eA_ret, eA_skip, eA_cond, eA_block, eA_exit, eCc_true, eCc_false, Kq_normal, Kq_ret, Kq_exit, Kb_normal, Kb_exit, Kb_ret, Kreg_eq, eI_nil, bindSt_some,
                bindSt_none, bindSt_ite, eR_eq, eGI_tt, eGI_ff, eGI_tf, eGI_ft, eop, vop, ev_t, ev_c, ev_f, Option.map, put_some, put_none, set_eq, setH_eq, get_eq, hp_eq,
                keep_cons, keep_nil, lk_cons, lk_nil, startSt, envOf, reduceIte, Nat.reduceEqDiff, Nat.reduceAdd, Nat.zero_add, Nat.add_zero, Nat.reduceMul, Nat.reduceLT,
                Nat.reduceLeDiff, bop, uop, intop, fltop, convop, true_or, or_true, Bool.false_eq_true, ret_ok, ret_normal, outV, rvV, rvs, ex_some, pureV, pureX, pureX.pure1',
                pure1, Bool.true_and, Bool.false_and, Bool.and_true, Bool.and_false, Option.isNone_none, AV.cells, AV.one, storable, laid, refless, refless1, List.all_cons,
                List.all_nil, List.length_cons, List.length_nil, List.getElem?_cons_zero, List.getElem?_cons_succ, List.set_cons_zero, List.set_cons_succ, List.set_nil,
                List.map_cons, List.map_nil, vload, loadC, storeC, vnil, vfaddr, vextract, callTo, List.mapM_cons, List.mapM_nil, Option.pure_def, Option.bind_eq_bind,
                Option.bind_some, tabOf_cons, flatT, flatE, flatC, and_self, and_true, true_and, implies_true, forall_const, not_true_eq_false, not_false_eq_true, false_implies,
                List.take_succ_cons, List.drop_succ_cons, List.take_zero, List.drop_zero, Bool.not_true, Bool.not_false, beq_self_eq_true, decide_true, decide_false, eq_self,
                Int.reduceEq, Int.reduceLE, Int.reduceLT, Bool.not_not, Bool.true_or, Bool.or_true, Bool.false_or, Bool.or_false, if_true, if_false, List.getElem?_nil, Kl_normal,
                Kl_exit, Kl_ret, fc77_0, fc77_1, fc77_2, fc77_3, fc77_4, fc77_5, fc77_6, fc77_7, fc77_8, cast_lit, toNat_lit, Int.reduceAdd, Int.reduceSub, Int.reduceMul,
                Int.reduceNeg, Int.reducePow, Nat.reducePow, Int.reduceToNat, Nat.reduceSub, Nat.mul_one, Int.toNat_zero, prod_eta, List.nil_append, List.cons_append,
                List.append_nil, vconv, vmm, vidxA, viaddrA, iaddr_sl, iaddr_lsl, getE, vfield, vlen, fillC, fillE, List.replicate, elemsOf, List.length_map, f2iK_eq, bits_i64,
                bits_i32, bits_u64, bits_u32, bits_u8, e_mov, g_mov, e_conv, g_conv, e_call, g_call, g_math_NaN]))
      all_goals (try simp only [*, m_impl_notNumber, Bool.and_true, Bool.true_and, Bool.and_false, Bool.false_and, Bool.or_true, Bool.true_or, Bool.or_false, Bool.false_or, Bool.not_true, Bool.not_false, Bool.false_eq_true, if_true, if_false, reduceIte, decide_true, decide_false])
      all_goals (try (simp_all; done))
    · cases h
  · cases h
def v_impl_wideAngle_0 (x0 : Nat) (x1 : Nat) : Nat := (fmul .f64 (if (flt .f64 (fabs x1) (fabs x0)) = true then (fdiv .f64 (fabs x1) (fabs x0)) else (fdiv .f64 (fabs x0) (fabs x1)))
      (if (flt .f64 (fabs x1) (fabs x0)) = true then (fdiv .f64 (fabs x1) (fabs x0)) else (fdiv .f64 (fabs x0) (fabs x1))))
def v_impl_wideAngle_1 (x0 : Nat) (x1 : Nat) : Nat := (fdiv .f64 (if (flt .f64 (fabs x1) (fabs x0)) = true then (fdiv .f64 (fabs x1) (fabs x0)) else (fdiv .f64 (fabs x0) (fabs x1)))
      (fadd .f64 4607182418800017408 (m_math_Sqrt (fadd .f64 4607182418800017408 (v_impl_wideAngle_0 x0 x1)))))
def v_impl_wideAngle_2 (x0 : Nat) (x1 : Nat) : Nat := (fdiv .f64 (v_impl_wideAngle_1 x0 x1) (fadd .f64 4607182418800017408 (m_math_Sqrt (fadd .f64 4607182418800017408 (fmul .f64
      (v_impl_wideAngle_1 x0 x1) (v_impl_wideAngle_1 x0 x1))))))
def v_impl_wideAngle_3 (x0 : Nat) (x1 : Nat) : Nat := (fdiv .f64 (v_impl_wideAngle_2 x0 x1) (fadd .f64 4607182418800017408 (m_math_Sqrt (fadd .f64 4607182418800017408 (fmul .f64
      (v_impl_wideAngle_2 x0 x1) (v_impl_wideAngle_2 x0 x1))))))
def v_impl_wideAngle_4 (x0 : Nat) (x1 : Nat) : Nat := (fmul .f64 (fmul .f64 (v_impl_wideAngle_3 x0 x1) (v_impl_wideAngle_3 x0 x1)) (fsub .f64 (fdiv .f64 4607182418800017408 (ofInt
      .f64 15)) (fmul .f64 (fmul .f64 (v_impl_wideAngle_3 x0 x1) (v_impl_wideAngle_3 x0 x1)) 0)))
def v_impl_wideAngle_5 (x0 : Nat) (x1 : Nat) : Nat := (fmul .f64 (fmul .f64 (v_impl_wideAngle_3 x0 x1) (v_impl_wideAngle_3 x0 x1)) (fsub .f64 (fdiv .f64 4607182418800017408 (ofInt
      .f64 13)) (v_impl_wideAngle_4 x0 x1)))
def v_impl_wideAngle_6 (x0 : Nat) (x1 : Nat) : Nat := (fmul .f64 (fmul .f64 (v_impl_wideAngle_3 x0 x1) (v_impl_wideAngle_3 x0 x1)) (fsub .f64 (fdiv .f64 4607182418800017408 (ofInt
      .f64 11)) (v_impl_wideAngle_5 x0 x1)))
def v_impl_wideAngle_7 (x0 : Nat) (x1 : Nat) : Nat := (fmul .f64 (fmul .f64 (v_impl_wideAngle_3 x0 x1) (v_impl_wideAngle_3 x0 x1)) (fsub .f64 (fdiv .f64 4607182418800017408 (ofInt
      .f64 9)) (v_impl_wideAngle_6 x0 x1)))
def v_impl_wideAngle_8 (x0 : Nat) (x1 : Nat) : Nat := (fmul .f64 (fmul .f64 (v_impl_wideAngle_3 x0 x1) (v_impl_wideAngle_3 x0 x1)) (fsub .f64 (fdiv .f64 4607182418800017408 (ofInt
      .f64 7)) (v_impl_wideAngle_7 x0 x1)))
def v_impl_wideAngle_9 (x0 : Nat) (x1 : Nat) : Nat := (fmul .f64 (fmul .f64 (v_impl_wideAngle_3 x0 x1) (v_impl_wideAngle_3 x0 x1)) (fsub .f64 (fdiv .f64 4607182418800017408 (ofInt
      .f64 5)) (v_impl_wideAngle_8 x0 x1)))
def v_impl_wideAngle_10 (x0 : Nat) (x1 : Nat) : Nat := (fmul .f64 (fmul .f64 (v_impl_wideAngle_3 x0 x1) (v_impl_wideAngle_3 x0 x1)) (fsub .f64 (fdiv .f64 4607182418800017408 (ofInt
      .f64 3)) (v_impl_wideAngle_9 x0 x1)))
def v_impl_wideAngle_11 (x0 : Nat) (x1 : Nat) : Nat := (fdiv .f64 (fmul .f64 4620693217682128896 (fmul .f64 (v_impl_wideAngle_3 x0 x1) (fsub .f64 (fdiv .f64 4607182418800017408
      (ofInt .f64 1)) (v_impl_wideAngle_10 x0 x1)))) 4618760256179416344)
def v_impl_wideAngle_12 (x0 : Nat) (x1 : Nat) : Nat := (fsub .f64 4602678819172646912 (if (flt .f64 (fabs x1) (fabs x0)) = true then (fsub .f64 4598175219545276416
      (v_impl_wideAngle_11 x0 x1)) else (v_impl_wideAngle_11 x0 x1)))
def v_impl_wideAngle_13 (x0 : Nat) (x1 : Nat) : Nat := (if (flt .f64 x1 0) = true then (v_impl_wideAngle_12 x0 x1) else (if (flt .f64 (fabs x1) (fabs x0)) = true then (fsub .f64
      4598175219545276416 (v_impl_wideAngle_11 x0 x1)) else (v_impl_wideAngle_11 x0 x1)))
def m_impl_wideAngle (x0 : Nat) (x1 : Nat) : Nat := (if (flt .f64 x0 0) = true then (fneg .f64 (v_impl_wideAngle_13 x0 x1)) else (v_impl_wideAngle_13 x0 x1))
def g_impl_wideAngle : List AV → Option AV
  | [.flt .f64 y0, .flt .f64 y1] => some (.flt .f64 (m_impl_wideAngle y0 y1))
  | _ => none
def ic52 : ICode := (.seq (.reg [⟨(some 4), none, (.mov (.c (.flt .f64 0)))⟩] [0, 1]) (.seq (.reg [⟨(some 12), none, (.mov (.t 0))⟩, ⟨(some 13), none, (.call (.fn 71) [(.t 12)]
      [])⟩, ⟨(some 14), none, (.mov (.t 1))⟩, ⟨(some 15), none, (.call (.fn 71) [(.t 14)] [])⟩, ⟨(some 5), none, (.mov (.t 13))⟩, ⟨(some 6), none, (.mov (.t 15))⟩] [0, 1, 5, 6])
      (.seq (.reg [⟨(some 16), none, (.mov (.t 5))⟩, ⟨(some 17), none, (.mov (.t 6))⟩, ⟨(some 18), none, (.bin .quo false (.t 16) (.t 17))⟩, ⟨(some 7), none, (.mov (.t 18))⟩] [0, 1,
      5, 6, 7]) (.seq (.seq (.reg [⟨(some 19), none, (.mov (.t 5))⟩, ⟨(some 20), none, (.mov (.t 6))⟩, ⟨(some 21), none, (.bin .gtr false (.t 19) (.t 20))⟩] [0, 1, 5, 6, 7, 21])
      (.cond (.t 21) (.reg [⟨(some 22), none, (.mov (.t 6))⟩, ⟨(some 23), none, (.mov (.t 5))⟩, ⟨(some 24), none, (.bin .quo false (.t 22) (.t 23))⟩, ⟨(some 7), none, (.mov (.t
      24))⟩] [0, 1, 5, 6, 7]) .skip)) (.seq (.seq (.reg [⟨(some 25), none, (.mov (.c (.int .i64 0)))⟩] [0, 1, 5, 6, 7, 25]) (.block 0 (.loop (.seq (.reg [⟨(some 26), none, (.bin
      .lss false (.t 25) (.c (.int .i64 3)))⟩] [0, 1, 5, 6, 7, 25, 26]) (.seq (.cond (.t 26) .skip (.exit 0)) (.seq (.block 1 (.reg [⟨(some 27), none, (.mov (.t 7))⟩, ⟨(some 28),
      none, (.mov (.t 7))⟩, ⟨(some 29), none, (.mov (.t 7))⟩, ⟨(some 30), none, (.bin .mul false (.t 28) (.t 29))⟩, ⟨(some 31), none, (.bin .add false (.c (.flt .f64
      4607182418800017408)) (.t 30))⟩, ⟨(some 32), none, (.call (.fn 53) [(.t 31)] [])⟩, ⟨(some 33), none, (.bin .add false (.c (.flt .f64 4607182418800017408)) (.t 32))⟩, ⟨(some
      34), none, (.bin .quo false (.t 27) (.t 33))⟩, ⟨(some 7), none, (.mov (.t 34))⟩] [0, 1, 5, 6, 7, 25])) (.reg [⟨(some 35), none, (.bin .add false (.t 25) (.c (.int .i64 1)))⟩,
      ⟨(some 25), none, (.mov (.t 35))⟩] [0, 1, 5, 6, 7, 25]))))))) (.seq (.reg [⟨(some 36), none, (.mov (.t 7))⟩, ⟨(some 37), none, (.mov (.t 7))⟩, ⟨(some 38), none, (.bin .mul
      false (.t 36) (.t 37))⟩, ⟨(some 8), none, (.mov (.t 38))⟩] [0, 1, 5, 6, 7, 8]) (.seq (.reg [⟨(some 9), none, (.mov (.c (.flt .f64 0)))⟩] [0, 1, 5, 6, 7, 8, 9]) (.seq (.seq
      (.reg [⟨(some 10), none, (.mov (.c (.int .i64 15)))⟩] [0, 1, 5, 6, 7, 8, 9, 10]) (.block 2 (.loop (.seq (.seq (.reg [⟨(some 39), none, (.mov (.t 10))⟩, ⟨(some 40), none, (.bin
      .geq false (.t 39) (.c (.int .i64 1)))⟩] [0, 1, 5, 6, 7, 8, 9, 10, 40]) (.cond (.t 40) .skip (.exit 2))) (.seq (.block 3 (.reg [⟨(some 43), none, (.mov (.t 10))⟩, ⟨(some 44),
      none, (.conv (.flt .f64) (.t 43))⟩, ⟨(some 45), none, (.bin .quo false (.c (.flt .f64 4607182418800017408)) (.t 44))⟩, ⟨(some 46), none, (.mov (.t 8))⟩, ⟨(some 47), none,
      (.mov (.t 9))⟩, ⟨(some 48), none, (.bin .mul false (.t 46) (.t 47))⟩, ⟨(some 49), none, (.bin .sub false (.t 45) (.t 48))⟩, ⟨(some 9), none, (.mov (.t 49))⟩] [0, 1, 5, 6, 7,
      8, 9, 10])) (.reg [⟨(some 41), none, (.mov (.t 10))⟩, ⟨(some 42), none, (.bin .sub false (.t 41) (.c (.int .i64 2)))⟩, ⟨(some 10), none, (.mov (.t 42))⟩] [0, 1, 5, 6, 7, 8, 9,
      10])))))) (.seq (.reg [⟨(some 50), none, (.mov (.t 7))⟩, ⟨(some 51), none, (.mov (.t 9))⟩, ⟨(some 52), none, (.bin .mul false (.t 50) (.t 51))⟩, ⟨(some 53), none, (.bin .mul
      false (.c (.flt .f64 4620693217682128896)) (.t 52))⟩, ⟨(some 54), none, (.bin .quo false (.t 53) (.c (.flt .f64 4618760256179416344)))⟩, ⟨(some 11), none, (.mov (.t 54))⟩] [0,
      1, 5, 6, 11]) (.seq (.seq (.reg [⟨(some 55), none, (.mov (.t 5))⟩, ⟨(some 56), none, (.mov (.t 6))⟩, ⟨(some 57), none, (.bin .gtr false (.t 55) (.t 56))⟩] [0, 1, 11, 57])
      (.cond (.t 57) (.reg [⟨(some 58), none, (.mov (.t 11))⟩, ⟨(some 59), none, (.bin .sub false (.c (.flt .f64 4598175219545276416)) (.t 58))⟩, ⟨(some 11), none, (.mov (.t 59))⟩]
      [0, 1, 11]) .skip)) (.seq (.seq (.reg [⟨(some 60), none, (.mov (.t 1))⟩, ⟨(some 61), none, (.bin .lss false (.t 60) (.c (.flt .f64 0)))⟩] [0, 11, 61]) (.cond (.t 61) (.reg
      [⟨(some 62), none, (.mov (.t 11))⟩, ⟨(some 63), none, (.bin .sub false (.c (.flt .f64 4602678819172646912)) (.t 62))⟩, ⟨(some 11), none, (.mov (.t 63))⟩] [0, 11]) .skip))
      (.seq (.seq (.reg [⟨(some 64), none, (.mov (.t 0))⟩, ⟨(some 65), none, (.bin .lss false (.t 64) (.c (.flt .f64 0)))⟩] [11, 65]) (.cond (.t 65) (.reg [⟨(some 66), none, (.mov
      (.t 11))⟩, ⟨(some 67), none, (.un .neg (.t 66))⟩, ⟨(some 11), none, (.mov (.t 67))⟩] [11]) .skip)) (.seq (.reg [⟨(some 68), none, (.mov (.t 11))⟩, ⟨(some 4), none, (.mov (.t
      68))⟩] [4]) .ret)))))))))))))
def cp52 : CP := { n := 69, kp := [[0, 1], [0, 1, 5, 6], [0, 1, 5, 6, 7], [0, 1, 5, 6, 7, 21], [0, 1, 5, 6, 7], [0, 1, 5, 6, 7, 25], [0, 1, 5, 6, 7, 25, 26], [0, 1, 5, 6, 7, 25],
      [0, 1, 5, 6, 7, 25], [0, 1, 5, 6, 7, 8], [0, 1, 5, 6, 7, 8, 9], [0, 1, 5, 6, 7, 8, 9, 10], [0, 1, 5, 6, 7, 8, 9, 10, 40], [0, 1, 5, 6, 7, 8, 9, 10], [0, 1, 5, 6, 7, 8, 9, 10],
      [0, 1, 5, 6, 11], [0, 1, 11, 57], [0, 1, 11], [0, 11, 61], [0, 11], [11, 65], [11], [4]] }
theorem fc52_0 : IntKind.wrap .i64 (-1) = (-1) := by decide
theorem fc52_1 : IntKind.wrap .i64 1 = 1 := by decide
theorem fc52_2 : IntKind.wrap .i64 11 = 11 := by decide
theorem fc52_3 : IntKind.wrap .i64 13 = 13 := by decide
theorem fc52_4 : IntKind.wrap .i64 2 = 2 := by decide
theorem fc52_5 : IntKind.wrap .i64 3 = 3 := by decide
theorem fc52_6 : IntKind.wrap .i64 5 = 5 := by decide
theorem fc52_7 : IntKind.wrap .i64 7 = 7 := by decide
theorem fc52_8 : IntKind.wrap .i64 9 = 9 := by decide
theorem s52 : ∀ vs r, g_impl_wideAngle vs = some r → Says Try.prog 52 vs r := by
  intro vs r h
  unfold g_impl_wideAngle at h
  split at h
  · rename_i y0 y1
    cases h
    refine spec_of (tab := tabOf [(53, g_math_Sqrt), (71, g_abs)]) (cp := cp52) (ic := ic52) (rvl := [(.t 4)]) hm (tabOk_cons s53 (tabOk_cons s71 tabOk_nil)) Try.func52 rfl rfl rfl (by kernel_rfl) rfl (Nat.le_of_ble_eq_true rfl) ?_
    show eA _ _ _ _
    unfold ic52
    simp only [
        eA_seq, eA_reg, eA_ret, eA_skip, eA_cond, eA_block, eA_exit, eCc_true, eCc_false, Kq_normal, Kq_ret, Kq_exit, Kb_normal, Kb_exit, Kb_ret, Kreg_eq, eI_nil, bindSt_some,
              bindSt_none, bindSt_ite, eR_eq, eGI_tt, eGI_ff, eGI_tf, eGI_ft, eop, vop, ev_t, ev_c, ev_f, Option.map, put_some, put_none, set_eq, setH_eq, get_eq, hp_eq, keep_cons,
              keep_nil, lk_cons, lk_nil, startSt, envOf, reduceIte, Nat.reduceEqDiff, Nat.reduceAdd, Nat.zero_add, Nat.add_zero, Nat.reduceMul, Nat.reduceLT, Nat.reduceLeDiff, bop,
              uop, intop, fltop, convop, true_or, or_true, Bool.false_eq_true, ret_ok, ret_normal, outV, rvV, rvs, ex_some, pureV, pureX, pureX.pure1', pure1, Bool.true_and,
              Bool.false_and, Bool.and_true, Bool.and_false, Option.isNone_none, AV.cells, AV.one, storable, laid, refless, refless1, List.all_cons, List.all_nil, List.length_cons,
              List.length_nil, List.getElem?_cons_zero, List.getElem?_cons_succ, List.set_cons_zero, List.set_cons_succ, List.set_nil, List.map_cons, List.map_nil, vload, loadC,
              storeC, vnil, vfaddr, vextract, callTo, List.mapM_cons, List.mapM_nil, Option.pure_def, Option.bind_eq_bind, Option.bind_some, tabOf_cons, flatT, flatE, flatC,
              and_self, and_true, true_and, implies_true, forall_const, not_true_eq_false, not_false_eq_true, false_implies, List.take_succ_cons, List.drop_succ_cons,
              List.take_zero, List.drop_zero, Bool.not_true, Bool.not_false, beq_self_eq_true, decide_true, decide_false, eq_self, Int.reduceEq, Int.reduceLE, Int.reduceLT,
              Bool.not_not, Bool.true_or, Bool.or_true, Bool.false_or, Bool.or_false, if_true, if_false, List.getElem?_nil, Kl_normal, Kl_exit, Kl_ret, fc52_0, fc52_1, fc52_2,
              fc52_3, fc52_4, fc52_5, fc52_6, fc52_7, fc52_8, cast_lit, toNat_lit, Int.reduceAdd, Int.reduceSub, Int.reduceMul, Int.reduceNeg, Int.reducePow, Nat.reducePow,
              Int.reduceToNat, Nat.reduceSub, Nat.mul_one, Int.toNat_zero, prod_eta, List.nil_append, List.cons_append, List.append_nil, vconv, vmm, vidxA, viaddrA, iaddr_sl,
              iaddr_lsl, getE, vfield, vlen, fillC, fillE, List.replicate, elemsOf, List.length_map, f2iK_eq, bits_i64, bits_i32, bits_u64, bits_u32, bits_u8, e_mov, g_mov, e_bin,
              g_bin, e_un, g_un, e_conv, g_conv, e_call, g_call, g_math_Sqrt, g_abs]
    repeat' (first
      | ((first | (refine eGI_of (fun h => ?_) (fun h => ?_)) | (refine eCc_of (fun h => ?_) (fun h => ?_)) | (have h := True.intro; refine KW_refl ?_) | (have h := True.intro; refine eA_loop ?_)) <;> (try simp only [Bool.not_eq_true', Bool.not_eq_false'] at h) <;> simp only [h,
        eA_seq, eA_reg, eA_ret, eA_skip, eA_cond, eA_block, eA_exit, eCc_true, eCc_false, Kq_normal, Kq_ret, Kq_exit, Kb_normal, Kb_exit, Kb_ret, Kreg_eq, eI_nil, bindSt_some,
              bindSt_none, bindSt_ite, eR_eq, eGI_tt, eGI_ff, eGI_tf, eGI_ft, eop, vop, ev_t, ev_c, ev_f, Option.map, put_some, put_none, set_eq, setH_eq, get_eq, hp_eq, keep_cons,
              keep_nil, lk_cons, lk_nil, startSt, envOf, reduceIte, Nat.reduceEqDiff, Nat.reduceAdd, Nat.zero_add, Nat.add_zero, Nat.reduceMul, Nat.reduceLT, Nat.reduceLeDiff, bop,
              uop, intop, fltop, convop, true_or, or_true, Bool.false_eq_true, ret_ok, ret_normal, outV, rvV, rvs, ex_some, pureV, pureX, pureX.pure1', pure1, Bool.true_and,
              Bool.false_and, Bool.and_true, Bool.and_false, Option.isNone_none, AV.cells, AV.one, storable, laid, refless, refless1, List.all_cons, List.all_nil, List.length_cons,
              List.length_nil, List.getElem?_cons_zero, List.getElem?_cons_succ, List.set_cons_zero, List.set_cons_succ, List.set_nil, List.map_cons, List.map_nil, vload, loadC,
              storeC, vnil, vfaddr, vextract, callTo, List.mapM_cons, List.mapM_nil, Option.pure_def, Option.bind_eq_bind, Option.bind_some, tabOf_cons, flatT, flatE, flatC,
              and_self, and_true, true_and, implies_true, forall_const, not_true_eq_false, not_false_eq_true, false_implies, List.take_succ_cons, List.drop_succ_cons,
              List.take_zero, List.drop_zero, Bool.not_true, Bool.not_false, beq_self_eq_true, decide_true, decide_false, eq_self, Int.reduceEq, Int.reduceLE, Int.reduceLT,
              Bool.not_not, Bool.true_or, Bool.or_true, Bool.false_or, Bool.or_false, if_true, if_false, List.getElem?_nil, Kl_normal, Kl_exit, Kl_ret, fc52_0, fc52_1, fc52_2,
              fc52_3, fc52_4, fc52_5, fc52_6, fc52_7, fc52_8, cast_lit, toNat_lit, Int.reduceAdd, Int.reduceSub, Int.reduceMul, Int.reduceNeg, Int.reducePow, Nat.reducePow,
              Int.reduceToNat, Nat.reduceSub, Nat.mul_one, Int.toNat_zero, prod_eta, List.nil_append, List.cons_append, List.append_nil, vconv, vmm, vidxA, viaddrA, iaddr_sl,
              iaddr_lsl, getE, vfield, vlen, fillC, fillE, List.replicate, elemsOf, List.length_map, f2iK_eq, bits_i64, bits_i32, bits_u64, bits_u32, bits_u8, e_mov, g_mov, e_bin,
              g_bin, e_un, g_un, e_conv, g_conv, e_call, g_call, g_math_Sqrt, g_abs]))
    all_goals (try simp only [*, m_impl_wideAngle, v_impl_wideAngle_0, v_impl_wideAngle_1, v_impl_wideAngle_2, v_impl_wideAngle_3, v_impl_wideAngle_4, v_impl_wideAngle_5, v_impl_wideAngle_6, v_impl_wideAngle_7, v_impl_wideAngle_8, v_impl_wideAngle_9, v_impl_wideAngle_10, v_impl_wideAngle_11, v_impl_wideAngle_12, v_impl_wideAngle_13, Bool.and_true, Bool.true_and, Bool.and_false, Bool.false_and, Bool.or_true, Bool.true_or, Bool.or_false, Bool.false_or, Bool.not_true, Bool.not_false, Bool.false_eq_true, if_true, if_false, reduceIte, decide_true, decide_false])
    all_goals (try (simp_all; done))
  · cases h
def m_impl_AngleTurns (x0 : Nat) (x1 : Nat) : Nat := (if (m_impl_IsFinite x1) = true then (if (m_impl_IsFinite x0) = true then (if (feq .f32 x1 0) = true then (if (feq .f32 x0 0) =
      true then 0 else (narrow (m_impl_wideAngle (widen x0) (widen x1)))) else (narrow (m_impl_wideAngle (widen x0) (widen x1)))) else (m_impl_notNumber)) else (m_impl_notNumber))
def p_impl_AngleTurns (x0 : Nat) (x1 : Nat) : Bool := (if (m_impl_IsFinite x1) = true then (if (m_impl_IsFinite x0) = true then (if (feq .f32 x1 0) = true then ((feq .f32 x0 0) ||
      (narrowOk (m_impl_wideAngle (widen x0) (widen x1)))) else (narrowOk (m_impl_wideAngle (widen x0) (widen x1)))) else (p_impl_notNumber)) else (p_impl_notNumber))
def g_impl_AngleTurns : List AV → Option AV
  | [.flt .f32 y0, .flt .f32 y1] => if p_impl_AngleTurns y0 y1 = true then some (.flt .f32 (m_impl_AngleTurns y0 y1)) else none
  | _ => none
def ic56 : ICode := (.seq (.reg [⟨(some 4), none, (.mov (.c (.flt .f32 0)))⟩] [0, 1]) (.seq (.seq (.reg [⟨(some 5), none, (.mov (.t 1))⟩, ⟨(some 6), none, (.call (.fn 51) [(.t 5)]
      [])⟩, ⟨(some 7), none, (.un .not (.t 6))⟩, ⟨(some 8), none, (.mov (.t 7))⟩, ⟨(some 9), (some (8, false)), (.mov (.t 0))⟩, ⟨(some 10), (some (8, false)), (.call (.fn 51) [(.t
      9)] [])⟩, ⟨(some 11), (some (8, false)), (.un .not (.t 10))⟩, ⟨(some 12), none, (.pick (.t 8) (.c (.bool true)) (.t 11))⟩] [0, 1, 12]) (.cond (.t 12) (.seq (.reg [⟨(some 13),
      none, (.call (.fn 77) [] [])⟩, ⟨(some 4), none, (.mov (.t 13))⟩] [4]) .ret) .skip)) (.seq (.seq (.reg [⟨(some 14), none, (.mov (.t 1))⟩, ⟨(some 15), none, (.bin .eql false (.t
      14) (.c (.flt .f32 0)))⟩, ⟨(some 16), none, (.mov (.t 15))⟩, ⟨(some 17), (some (16, true)), (.mov (.t 0))⟩, ⟨(some 18), (some (16, true)), (.bin .eql false (.t 17) (.c (.flt
      .f32 0)))⟩, ⟨(some 19), none, (.pick (.t 16) (.t 18) (.c (.bool false)))⟩] [0, 1, 19]) (.cond (.t 19) (.seq (.reg [⟨(some 4), none, (.mov (.c (.flt .f32 0)))⟩] [4]) .ret)
      .skip)) (.seq (.reg [⟨(some 20), none, (.mov (.t 0))⟩, ⟨(some 21), none, (.conv (.flt .f64) (.t 20))⟩, ⟨(some 22), none, (.mov (.t 1))⟩, ⟨(some 23), none, (.conv (.flt .f64)
      (.t 22))⟩, ⟨(some 24), none, (.call (.fn 52) [(.t 21), (.t 23)] [])⟩, ⟨(some 25), none, (.conv (.flt .f32) (.t 24))⟩, ⟨(some 4), none, (.mov (.t 25))⟩] [4]) .ret))))
def cp56 : CP := { n := 26, kp := [[0, 1], [0, 1, 12], [4], [0, 1, 19], [4], [4]] }
theorem fc56_0 : IntKind.wrap .i64 (-1) = (-1) := by decide
theorem fc56_1 : IntKind.wrap .i64 1 = 1 := by decide
theorem fc56_2 : IntKind.wrap .i64 11 = 11 := by decide
theorem fc56_3 : IntKind.wrap .i64 13 = 13 := by decide
theorem fc56_4 : IntKind.wrap .i64 2 = 2 := by decide
theorem fc56_5 : IntKind.wrap .i64 3 = 3 := by decide
theorem fc56_6 : IntKind.wrap .i64 5 = 5 := by decide
theorem fc56_7 : IntKind.wrap .i64 7 = 7 := by decide
theorem fc56_8 : IntKind.wrap .i64 9 = 9 := by decide
theorem s56 : ∀ vs r, g_impl_AngleTurns vs = some r → Says Try.prog 56 vs r := by
  intro vs r h
  unfold g_impl_AngleTurns at h
  split at h
  · rename_i y0 y1
    split at h
    · rename_i hp
      cases h
      refine spec_of (tab := tabOf [(51, g_impl_IsFinite), (52, g_impl_wideAngle), (77, g_impl_notNumber)]) (cp := cp56) (ic := ic56) (rvl := [(.t 4)]) hm (tabOk_cons s51 (tabOk_cons s52 (tabOk_cons s77 tabOk_nil))) Try.func56 rfl rfl rfl (by kernel_rfl) rfl (Nat.le_of_ble_eq_true rfl) ?_
      show eA _ _ _ _
      unfold ic56
      simp only [p_impl_AngleTurns, Bool.and_eq_true, Bool.or_eq_true, decide_eq_true_eq, Bool.not_eq_true', decide_eq_false_iff_not] at hp
      simp only [
          hp, eA_seq, eA_reg, eA_ret, eA_skip, eA_cond, eA_block, eA_exit, eCc_true, eCc_false, Kq_normal, Kq_ret, Kq_exit, Kb_normal, Kb_exit, Kb_ret, Kreg_eq, eI_nil, bindSt_some,
                bindSt_none, bindSt_ite, eR_eq, eGI_tt, eGI_ff, eGI_tf, eGI_ft, eop, vop, ev_t, ev_c, ev_f, Option.map, put_some, put_none, set_eq, setH_eq, get_eq, hp_eq,
                keep_cons, keep_nil, lk_cons, lk_nil, startSt, envOf, reduceIte, Nat.reduceEqDiff, Nat.reduceAdd, Nat.zero_add, Nat.add_zero, Nat.reduceMul, Nat.reduceLT,
                Nat.reduceLeDiff, bop, uop, intop, fltop, convop, true_or, or_true, Bool.false_eq_true, ret_ok, ret_normal, outV, rvV, rvs, ex_some, pureV, pureX, pureX.pure1',
                pure1, Bool.true_and, Bool.false_and, Bool.and_true, Bool.and_false, Option.isNone_none, AV.cells, AV.one, storable, laid, refless, refless1, List.all_cons,
                List.all_nil, List.length_cons, List.length_nil, List.getElem?_cons_zero, List.getElem?_cons_succ, List.set_cons_zero, List.set_cons_succ, List.set_nil,
                List.map_cons, List.map_nil, vload, loadC, storeC, vnil, vfaddr, vextract, callTo, List.mapM_cons, List.mapM_nil, Option.pure_def, Option.bind_eq_bind,
                Option.bind_some, tabOf_cons, flatT, flatE, flatC, and_self, and_true, true_and, implies_true, forall_const, not_true_eq_false, not_false_eq_true, false_implies,
                List.take_succ_cons, List.drop_succ_cons, List.take_zero, List.drop_zero, Bool.not_true, Bool.not_false, beq_self_eq_true, decide_true, decide_false, eq_self,
                Int.reduceEq, Int.reduceLE, Int.reduceLT, Bool.not_not, Bool.true_or, Bool.or_true, Bool.false_or, Bool.or_false, if_true, if_false, List.getElem?_nil, Kl_normal,
                Kl_exit, Kl_ret, fc56_0, fc56_1, fc56_2, fc56_3, fc56_4, fc56_5, fc56_6, fc56_7, fc56_8, cast_lit, toNat_lit, Int.reduceAdd, Int.reduceSub, Int.reduceMul,
                Int.reduceNeg, Int.reducePow, Nat.reducePow, Int.reduceToNat, Nat.reduceSub, Nat.mul_one, Int.toNat_zero, prod_eta, List.nil_append, List.cons_append,
                List.append_nil, vconv, vmm, vidxA, viaddrA, iaddr_sl, iaddr_lsl, getE, vfield, vlen, fillC, fillE, List.replicate, elemsOf, List.length_map, f2iK_eq, bits_i64,
                bits_i32, bits_u64, bits_u32, bits_u8, e_mov, g_mov, e_pick, g_pick, e_bin, g_bin, e_un, g_un, e_conv, g_conv, e_call, g_call, g_impl_IsFinite, g_impl_wideAngle,
                g_impl_notNumber, ↓b_pick, ePk_true, ePk_false]
      repeat' (first
        | ((first | (refine eGI_of (fun h => ?_) (fun h => ?_)) | (refine eCc_of (fun h => ?_) (fun h => ?_)) | (refine ePk_of (fun h => ?_) (fun h => ?_))) <;> (try simp only [Bool.not_eq_true', Bool.not_eq_false'] at h) <;> (try simp only [h, reduceCtorEq, Bool.not_eq_true', decide_eq_false_iff_not, Bool.not_true, Bool.not_false, Bool.false_or, Bool.true_or, Bool.true_and, Bool.false_and, Bool.and_eq_true, Bool.or_eq_true, if_true, if_false, reduceIte, Bool.false_eq_true, and_true, true_and, false_or, or_false, decide_eq_true_eq, not_false_eq_true, not_true_eq_false] at hp) <;> (try (have h2 := h; simp only [decide_eq_true_eq, decide_eq_false_iff_not] at h2; simp only [h2, if_true, if_false, false_or, true_or, or_true, or_false, and_true, true_and, not_false_eq_true, not_true_eq_false] at hp)) <;> simp only [h,
          hp, eA_seq, eA_reg, eA_ret, eA_skip, eA_cond, eA_block, eA_exit, eCc_true, eCc_false, Kq_normal, Kq_ret, Kq_exit, Kb_normal, Kb_exit, Kb_ret, Kreg_eq, eI_nil, bindSt_some,
                bindSt_none, bindSt_ite, eR_eq, eGI_tt, eGI_ff, eGI_tf, eGI_ft, eop, vop, ev_t, ev_c, ev_f, Option.map, put_some, put_none, set_eq, setH_eq, get_eq, hp_eq,
                keep_cons, keep_nil, lk_cons, lk_nil, startSt, envOf, reduceIte, Nat.reduceEqDiff, Nat.reduceAdd, Nat.zero_add, Nat.add_zero, Nat.reduceMul, Nat.reduceLT,
                Nat.reduceLeDiff, bop, uop, intop, fltop, convop, true_or, or_true, Bool.false_eq_true, ret_ok, ret_normal, outV, rvV, rvs, ex_some, pureV, pureX, pureX.pure1',
                pure1, Bool.true_and, Bool.false_and, Bool.and_true, Bool.and_false, Option.isNone_none, AV.cells, AV.one, storable, laid, refless, refless1, List.all_cons,
                List.all_nil, List.length_cons, List.length_nil, List.getElem?_cons_zero, List.getElem?_cons_succ, List.set_cons_zero, List.set_cons_succ, List.set_nil,
                List.map_cons, List.map_nil, vload, loadC, storeC, vnil, vfaddr, vextract, callTo, List.mapM_cons, List.mapM_nil, Option.pure_def, Option.bind_eq_bind,
                Option.bind_some, tabOf_cons, flatT, flatE, flatC, and_self, and_true, true_and, implies_true, forall_const, not_true_eq_false, not_false_eq_true, false_implies,
                List.take_succ_cons, List.drop_succ_cons, List.take_zero, List.drop_zero, Bool.not_true, Bool.not_false, beq_self_eq_true, decide_true, decide_false, eq_self,
                Int.reduceEq, Int.reduceLE, Int.reduceLT, Bool.not_not, Bool.true_or, Bool.or_true, Bool.false_or, Bool.or_false, if_true, if_false, List.getElem?_nil, Kl_normal,
                Kl_exit, Kl_ret, fc56_0, fc56_1, fc56_2, fc56_3, fc56_4, fc56_5, fc56_6, fc56_7, fc56_8, cast_lit, toNat_lit, Int.reduceAdd, Int.reduceSub, Int.reduceMul,
                Int.reduceNeg, Int.reducePow, Nat.reducePow, Int.reduceToNat, Nat.reduceSub, Nat.mul_one, Int.toNat_zero, prod_eta, List.nil_append, List.cons_append,
                List.append_nil, vconv, vmm, vidxA, viaddrA, iaddr_sl, iaddr_lsl, getE, vfield, vlen, fillC, fillE, List.replicate, elemsOf, List.length_map, f2iK_eq, bits_i64,
                bits_i32, bits_u64, bits_u32, bits_u8, e_mov, g_mov, e_pick, g_pick, e_bin, g_bin, e_un, g_un, e_conv, g_conv, e_call, g_call, g_impl_IsFinite, g_impl_wideAngle,
                g_impl_notNumber, ↓b_pick, ePk_true, ePk_false]))
      all_goals (try simp only [*, m_impl_AngleTurns, Bool.and_true, Bool.true_and, Bool.and_false, Bool.false_and, Bool.or_true, Bool.true_or, Bool.or_false, Bool.false_or, Bool.not_true, Bool.not_false, Bool.false_eq_true, if_true, if_false, reduceIte, decide_true, decide_false])
      all_goals (try (simp_all; done))
    · cases h
  · cases h
def v_impl_HingeAngle_0 (x0 : (Nat × Nat × Nat × Nat)) (x1 : (Nat × Nat × Nat)) : Nat := (if (flt .f32 1056964608 (fmul .f32 1073741824 (m_impl_AngleTurns (m_impl_InnerOf x1
      (m_impl_Turn_vector x0)) x0.1))) = true then (fsub .f32 (fmul .f32 1073741824 (m_impl_AngleTurns (m_impl_InnerOf x1 (m_impl_Turn_vector x0)) x0.1)) 1065353216) else (fmul .f32
      1073741824 (m_impl_AngleTurns (m_impl_InnerOf x1 (m_impl_Turn_vector x0)) x0.1)))
def m_impl_HingeAngle (x0 : (Nat × Nat × Nat × Nat)) (x1 : (Nat × Nat × Nat)) : Nat := (if (flt .f32 (v_impl_HingeAngle_0 x0 x1) 3204448256) = true then (fadd .f32
      (v_impl_HingeAngle_0 x0 x1) 1065353216) else (v_impl_HingeAngle_0 x0 x1))
def p_impl_HingeAngle (x0 : (Nat × Nat × Nat × Nat)) (x1 : (Nat × Nat × Nat)) : Bool := (p_impl_AngleTurns (m_impl_InnerOf x1 (m_impl_Turn_vector x0)) x0.1)
def g_impl_HingeAngle : List AV → Option AV
  | [.agg [.flt .f32 y0, .flt .f32 y1, .flt .f32 y2, .flt .f32 y3], .agg [.flt .f32 y4, .flt .f32 y5, .flt .f32 y6]] => if
      p_impl_HingeAngle (y0, y1, y2, y3) (y4, y5, y6) = true then some (.flt .f32 (m_impl_HingeAngle (y0, y1, y2, y3) (y4, y5, y6))) else none
  | _ => none
def ic23 : ICode := (.seq (.reg [⟨(some 2), none, (.box 4 (.t 0))⟩, ⟨(some 3), none, (.box 3 (.t 1))⟩, ⟨(some 4), none, (.mov (.c (.flt .f32 0)))⟩] [2, 3]) (.seq (.reg [⟨(some 6),
      none, (.load (some 3) (.t 3))⟩, ⟨(some 7), none, (.load (some 4) (.t 2))⟩, ⟨(some 8), none, (.call (.fn 57) [(.t 7)] [])⟩, ⟨(some 9), none, (.call (.fn 49) [(.t 6), (.t 8)]
      [])⟩, ⟨(some 10), none, (.faddr 0 (.t 2))⟩, ⟨(some 11), none, (.load none (.t 10))⟩, ⟨(some 12), none, (.call (.fn 56) [(.t 9), (.t 11)] [])⟩, ⟨(some 13), none, (.bin .mul
      false (.c (.flt .f32 1073741824)) (.t 12))⟩, ⟨(some 5), none, (.mov (.t 13))⟩] [5]) (.seq (.seq (.reg [⟨(some 14), none, (.mov (.t 5))⟩, ⟨(some 15), none, (.bin .gtr false (.t
      14) (.c (.flt .f32 1056964608)))⟩] [5, 15]) (.cond (.t 15) (.reg [⟨(some 16), none, (.mov (.t 5))⟩, ⟨(some 17), none, (.bin .sub false (.t 16) (.c (.flt .f32 1065353216)))⟩,
      ⟨(some 5), none, (.mov (.t 17))⟩] [5]) .skip)) (.seq (.seq (.reg [⟨(some 18), none, (.mov (.t 5))⟩, ⟨(some 19), none, (.bin .lss false (.t 18) (.c (.flt .f32 3204448256)))⟩]
      [5, 19]) (.cond (.t 19) (.reg [⟨(some 20), none, (.mov (.t 5))⟩, ⟨(some 21), none, (.bin .add false (.t 20) (.c (.flt .f32 1065353216)))⟩, ⟨(some 5), none, (.mov (.t 21))⟩]
      [5]) .skip)) (.seq (.reg [⟨(some 22), none, (.mov (.t 5))⟩, ⟨(some 4), none, (.mov (.t 22))⟩] [4]) .ret)))))
def cp23 : CP := { n := 23, kp := [[2, 3], [5], [5, 15], [5], [5, 19], [5], [4]] }
theorem fc23_0 : IntKind.wrap .i64 (-1) = (-1) := by decide
theorem fc23_1 : IntKind.wrap .i64 1 = 1 := by decide
theorem fc23_2 : IntKind.wrap .i64 11 = 11 := by decide
theorem fc23_3 : IntKind.wrap .i64 13 = 13 := by decide
theorem fc23_4 : IntKind.wrap .i64 2 = 2 := by decide
theorem fc23_5 : IntKind.wrap .i64 3 = 3 := by decide
theorem fc23_6 : IntKind.wrap .i64 5 = 5 := by decide
theorem fc23_7 : IntKind.wrap .i64 7 = 7 := by decide
theorem fc23_8 : IntKind.wrap .i64 9 = 9 := by decide
theorem s23 : ∀ vs r, g_impl_HingeAngle vs = some r → Says Try.prog 23 vs r := by
  intro vs r h
  unfold g_impl_HingeAngle at h
  split at h
  · rename_i y0 y1 y2 y3 y4 y5 y6
    split at h
    · rename_i hp
      cases h
      refine spec_of (tab := tabOf [(49, g_impl_InnerOf), (56, g_impl_AngleTurns), (57, g_impl_Turn_vector)]) (cp := cp23) (ic := ic23) (rvl := [(.t 4)]) hm (tabOk_cons s49 (tabOk_cons s56 (tabOk_cons s57 tabOk_nil))) Try.func23 rfl rfl rfl (by kernel_rfl) rfl (Nat.le_of_ble_eq_true rfl) ?_
      show eA _ _ _ _
      unfold ic23
      simp only [p_impl_HingeAngle, v_impl_HingeAngle_0, Bool.and_eq_true, Bool.or_eq_true, decide_eq_true_eq, Bool.not_eq_true', decide_eq_false_iff_not] at hp
      simp only [
          hp, eA_seq, eA_reg, eA_ret, eA_skip, eA_cond, eA_block, eA_exit, eCc_true, eCc_false, Kq_normal, Kq_ret, Kq_exit, Kb_normal, Kb_exit, Kb_ret, Kreg_eq, eI_nil, bindSt_some,
                bindSt_none, bindSt_ite, eR_eq, eGI_tt, eGI_ff, eGI_tf, eGI_ft, eop, vop, ev_t, ev_c, ev_f, Option.map, put_some, put_none, set_eq, setH_eq, get_eq, hp_eq,
                keep_cons, keep_nil, lk_cons, lk_nil, startSt, envOf, reduceIte, Nat.reduceEqDiff, Nat.reduceAdd, Nat.zero_add, Nat.add_zero, Nat.reduceMul, Nat.reduceLT,
                Nat.reduceLeDiff, bop, uop, intop, fltop, convop, true_or, or_true, Bool.false_eq_true, ret_ok, ret_normal, outV, rvV, rvs, ex_some, pureV, pureX, pureX.pure1',
                pure1, Bool.true_and, Bool.false_and, Bool.and_true, Bool.and_false, Option.isNone_none, AV.cells, AV.one, storable, laid, refless, refless1, List.all_cons,
                List.all_nil, List.length_cons, List.length_nil, List.getElem?_cons_zero, List.getElem?_cons_succ, List.set_cons_zero, List.set_cons_succ, List.set_nil,
                List.map_cons, List.map_nil, vload, loadC, storeC, vnil, vfaddr, vextract, callTo, List.mapM_cons, List.mapM_nil, Option.pure_def, Option.bind_eq_bind,
                Option.bind_some, tabOf_cons, flatT, flatE, flatC, and_self, and_true, true_and, implies_true, forall_const, not_true_eq_false, not_false_eq_true, false_implies,
                List.take_succ_cons, List.drop_succ_cons, List.take_zero, List.drop_zero, Bool.not_true, Bool.not_false, beq_self_eq_true, decide_true, decide_false, eq_self,
                Int.reduceEq, Int.reduceLE, Int.reduceLT, Bool.not_not, Bool.true_or, Bool.or_true, Bool.false_or, Bool.or_false, if_true, if_false, List.getElem?_nil, Kl_normal,
                Kl_exit, Kl_ret, fc23_0, fc23_1, fc23_2, fc23_3, fc23_4, fc23_5, fc23_6, fc23_7, fc23_8, cast_lit, toNat_lit, Int.reduceAdd, Int.reduceSub, Int.reduceMul,
                Int.reduceNeg, Int.reducePow, Nat.reducePow, Int.reduceToNat, Nat.reduceSub, Nat.mul_one, Int.toNat_zero, prod_eta, List.nil_append, List.cons_append,
                List.append_nil, vconv, vmm, vidxA, viaddrA, iaddr_sl, iaddr_lsl, getE, vfield, vlen, fillC, fillE, List.replicate, elemsOf, List.length_map, f2iK_eq, bits_i64,
                bits_i32, bits_u64, bits_u32, bits_u8, e_mov, g_mov, e_box, g_box, e_load, g_load, e_bin, g_bin, e_faddr, g_faddr, e_call, g_call, g_impl_InnerOf, g_impl_AngleTurns,
                g_impl_Turn_vector]
      repeat' (first
        | ((first | (refine eGI_of (fun h => ?_) (fun h => ?_)) | (refine eCc_of (fun h => ?_) (fun h => ?_))) <;> (try simp only [Bool.not_eq_true', Bool.not_eq_false'] at h) <;> (try simp only [h, reduceCtorEq, Bool.not_eq_true', decide_eq_false_iff_not, Bool.not_true, Bool.not_false, Bool.false_or, Bool.true_or, Bool.true_and, Bool.false_and, Bool.and_eq_true, Bool.or_eq_true, if_true, if_false, reduceIte, Bool.false_eq_true, and_true, true_and, false_or, or_false, decide_eq_true_eq, not_false_eq_true, not_true_eq_false] at hp) <;> (try (have h2 := h; simp only [decide_eq_true_eq, decide_eq_false_iff_not] at h2; simp only [h2, if_true, if_false, false_or, true_or, or_true, or_false, and_true, true_and, not_false_eq_true, not_true_eq_false] at hp)) <;> simp only [h,
          hp, eA_seq, eA_reg, eA_ret, eA_skip, eA_cond, eA_block, eA_exit, eCc_true, eCc_false, Kq_normal, Kq_ret, Kq_exit, Kb_normal, Kb_exit, Kb_ret, Kreg_eq, eI_nil, bindSt_some,
                bindSt_none, bindSt_ite, eR_eq, eGI_tt, eGI_ff, eGI_tf, eGI_ft, eop, vop, ev_t, ev_c, ev_f, Option.map, put_some, put_none, set_eq, setH_eq, get_eq, hp_eq,
                keep_cons, keep_nil, lk_cons, lk_nil, startSt, envOf, reduceIte, Nat.reduceEqDiff, Nat.reduceAdd, Nat.zero_add, Nat.add_zero, Nat.reduceMul, Nat.reduceLT,
                Nat.reduceLeDiff, bop, uop, intop, fltop, convop, true_or, or_true, Bool.false_eq_true, ret_ok, ret_normal, outV, rvV, rvs, ex_some, pureV, pureX, pureX.pure1',
                pure1, Bool.true_and, Bool.false_and, Bool.and_true, Bool.and_false, Option.isNone_none, AV.cells, AV.one, storable, laid, refless, refless1, List.all_cons,
                List.all_nil, List.length_cons, List.length_nil, List.getElem?_cons_zero, List.getElem?_cons_succ, List.set_cons_zero, List.set_cons_succ, List.set_nil,
                List.map_cons, List.map_nil, vload, loadC, storeC, vnil, vfaddr, vextract, callTo, List.mapM_cons, List.mapM_nil, Option.pure_def, Option.bind_eq_bind,
                Option.bind_some, tabOf_cons, flatT, flatE, flatC, and_self, and_true, true_and, implies_true, forall_const, not_true_eq_false, not_false_eq_true, false_implies,
                List.take_succ_cons, List.drop_succ_cons, List.take_zero, List.drop_zero, Bool.not_true, Bool.not_false, beq_self_eq_true, decide_true, decide_false, eq_self,
                Int.reduceEq, Int.reduceLE, Int.reduceLT, Bool.not_not, Bool.true_or, Bool.or_true, Bool.false_or, Bool.or_false, if_true, if_false, List.getElem?_nil, Kl_normal,
                Kl_exit, Kl_ret, fc23_0, fc23_1, fc23_2, fc23_3, fc23_4, fc23_5, fc23_6, fc23_7, fc23_8, cast_lit, toNat_lit, Int.reduceAdd, Int.reduceSub, Int.reduceMul,
                Int.reduceNeg, Int.reducePow, Nat.reducePow, Int.reduceToNat, Nat.reduceSub, Nat.mul_one, Int.toNat_zero, prod_eta, List.nil_append, List.cons_append,
                List.append_nil, vconv, vmm, vidxA, viaddrA, iaddr_sl, iaddr_lsl, getE, vfield, vlen, fillC, fillE, List.replicate, elemsOf, List.length_map, f2iK_eq, bits_i64,
                bits_i32, bits_u64, bits_u32, bits_u8, e_mov, g_mov, e_box, g_box, e_load, g_load, e_bin, g_bin, e_faddr, g_faddr, e_call, g_call, g_impl_InnerOf, g_impl_AngleTurns,
                g_impl_Turn_vector]))
      all_goals (try simp only [*, m_impl_HingeAngle, v_impl_HingeAngle_0, Bool.and_true, Bool.true_and, Bool.and_false, Bool.false_and, Bool.or_true, Bool.true_or, Bool.or_false, Bool.false_or, Bool.not_true, Bool.not_false, Bool.false_eq_true, if_true, if_false, reduceIte, decide_true, decide_false])
      all_goals (try (simp_all; done))
    · cases h
  · cases h
def m_laws_sameFloat (x0 : Nat) (x1 : Nat) : Bool := (if (feq .f64 x0 x0) = true then (if (feq .f64 x1 x1) = true then (if (feq .f64 x0 0) = true then (if (feq .f64 x1 0) = true
      then ((flt .f64 0 (fdiv .f64 4607182418800017408 x0)) == (flt .f64 0 (fdiv .f64 4607182418800017408 x1))) else (feq .f64 x0 x1)) else (feq .f64 x0 x1)) else false) else (!(feq
      .f64 x1 x1)))
def g_laws_sameFloat : List AV → Option AV
  | [.flt .f64 y0, .flt .f64 y1] => some (.bool (m_laws_sameFloat y0 y1))
  | _ => none
def ic24 : ICode := (.seq (.reg [⟨(some 4), none, (.mov (.c (.bool false)))⟩] [0, 1]) (.seq (.seq (.reg [⟨(some 5), none, (.mov (.t 0))⟩, ⟨(some 6), none, (.mov (.t 0))⟩, ⟨(some 7),
      none, (.bin .neq false (.t 5) (.t 6))⟩, ⟨(some 8), none, (.mov (.t 7))⟩, ⟨(some 9), (some (8, false)), (.mov (.t 1))⟩, ⟨(some 10), (some (8, false)), (.mov (.t 1))⟩, ⟨(some
      11), (some (8, false)), (.bin .neq false (.t 9) (.t 10))⟩, ⟨(some 12), none, (.pick (.t 8) (.c (.bool true)) (.t 11))⟩] [0, 1, 12]) (.cond (.t 12) (.seq (.reg [⟨(some 13),
      none, (.mov (.t 0))⟩, ⟨(some 14), none, (.mov (.t 0))⟩, ⟨(some 15), none, (.bin .neq false (.t 13) (.t 14))⟩, ⟨(some 16), none, (.mov (.t 15))⟩, ⟨(some 17), (some (16, true)),
      (.mov (.t 1))⟩, ⟨(some 18), (some (16, true)), (.mov (.t 1))⟩, ⟨(some 19), (some (16, true)), (.bin .neq false (.t 17) (.t 18))⟩, ⟨(some 20), none, (.pick (.t 16) (.t 19) (.c
      (.bool false)))⟩, ⟨(some 4), none, (.mov (.t 20))⟩] [4]) .ret) .skip)) (.seq (.seq (.reg [⟨(some 21), none, (.mov (.t 0))⟩, ⟨(some 22), none, (.bin .eql false (.t 21) (.c
      (.flt .f64 0)))⟩, ⟨(some 23), none, (.mov (.t 22))⟩, ⟨(some 24), (some (23, true)), (.mov (.t 1))⟩, ⟨(some 25), (some (23, true)), (.bin .eql false (.t 24) (.c (.flt .f64
      0)))⟩, ⟨(some 26), none, (.pick (.t 23) (.t 25) (.c (.bool false)))⟩] [0, 1, 26]) (.cond (.t 26) (.seq (.reg [⟨(some 27), none, (.mov (.t 0))⟩, ⟨(some 28), none, (.bin .quo
      false (.c (.flt .f64 4607182418800017408)) (.t 27))⟩, ⟨(some 29), none, (.bin .gtr false (.t 28) (.c (.flt .f64 0)))⟩, ⟨(some 30), none, (.mov (.t 1))⟩, ⟨(some 31), none,
      (.bin .quo false (.c (.flt .f64 4607182418800017408)) (.t 30))⟩, ⟨(some 32), none, (.bin .gtr false (.t 31) (.c (.flt .f64 0)))⟩, ⟨(some 33), none, (.bin .eql true (.t 29) (.t
      32))⟩, ⟨(some 4), none, (.mov (.t 33))⟩] [4]) .ret) .skip)) (.seq (.reg [⟨(some 34), none, (.mov (.t 0))⟩, ⟨(some 35), none, (.mov (.t 1))⟩, ⟨(some 36), none, (.bin .eql false
      (.t 34) (.t 35))⟩, ⟨(some 4), none, (.mov (.t 36))⟩] [4]) .ret))))
def cp24 : CP := { n := 37, kp := [[0, 1], [0, 1, 12], [4], [0, 1, 26], [4], [4]] }
theorem fc24_0 : IntKind.wrap .i64 (-1) = (-1) := by decide
theorem fc24_1 : IntKind.wrap .i64 1 = 1 := by decide
theorem fc24_2 : IntKind.wrap .i64 11 = 11 := by decide
theorem fc24_3 : IntKind.wrap .i64 13 = 13 := by decide
theorem fc24_4 : IntKind.wrap .i64 2 = 2 := by decide
theorem fc24_5 : IntKind.wrap .i64 3 = 3 := by decide
theorem fc24_6 : IntKind.wrap .i64 5 = 5 := by decide
theorem fc24_7 : IntKind.wrap .i64 7 = 7 := by decide
theorem fc24_8 : IntKind.wrap .i64 9 = 9 := by decide
theorem s24 : ∀ vs r, g_laws_sameFloat vs = some r → Says Try.prog 24 vs r := by
  intro vs r h
  unfold g_laws_sameFloat at h
  split at h
  · rename_i y0 y1
    cases h
    refine spec_of (tab := tabOf []) (cp := cp24) (ic := ic24) (rvl := [(.t 4)]) hm tabOk_nil Try.func24 rfl rfl rfl (by kernel_rfl) rfl (Nat.le_of_ble_eq_true rfl) ?_
    show eA _ _ _ _
    unfold ic24
    simp only [
        eA_seq, eA_reg, eA_ret, eA_skip, eA_cond, eA_block, eA_exit, eCc_true, eCc_false, Kq_normal, Kq_ret, Kq_exit, Kb_normal, Kb_exit, Kb_ret, Kreg_eq, eI_nil, bindSt_some,
              bindSt_none, bindSt_ite, eR_eq, eGI_tt, eGI_ff, eGI_tf, eGI_ft, eop, vop, ev_t, ev_c, ev_f, Option.map, put_some, put_none, set_eq, setH_eq, get_eq, hp_eq, keep_cons,
              keep_nil, lk_cons, lk_nil, startSt, envOf, reduceIte, Nat.reduceEqDiff, Nat.reduceAdd, Nat.zero_add, Nat.add_zero, Nat.reduceMul, Nat.reduceLT, Nat.reduceLeDiff, bop,
              uop, intop, fltop, convop, true_or, or_true, Bool.false_eq_true, ret_ok, ret_normal, outV, rvV, rvs, ex_some, pureV, pureX, pureX.pure1', pure1, Bool.true_and,
              Bool.false_and, Bool.and_true, Bool.and_false, Option.isNone_none, AV.cells, AV.one, storable, laid, refless, refless1, List.all_cons, List.all_nil, List.length_cons,
              List.length_nil, List.getElem?_cons_zero, List.getElem?_cons_succ, List.set_cons_zero, List.set_cons_succ, List.set_nil, List.map_cons, List.map_nil, vload, loadC,
              storeC, vnil, vfaddr, vextract, callTo, List.mapM_cons, List.mapM_nil, Option.pure_def, Option.bind_eq_bind, Option.bind_some, tabOf_cons, flatT, flatE, flatC,
              and_self, and_true, true_and, implies_true, forall_const, not_true_eq_false, not_false_eq_true, false_implies, List.take_succ_cons, List.drop_succ_cons,
              List.take_zero, List.drop_zero, Bool.not_true, Bool.not_false, beq_self_eq_true, decide_true, decide_false, eq_self, Int.reduceEq, Int.reduceLE, Int.reduceLT,
              Bool.not_not, Bool.true_or, Bool.or_true, Bool.false_or, Bool.or_false, if_true, if_false, List.getElem?_nil, Kl_normal, Kl_exit, Kl_ret, fc24_0, fc24_1, fc24_2,
              fc24_3, fc24_4, fc24_5, fc24_6, fc24_7, fc24_8, cast_lit, toNat_lit, Int.reduceAdd, Int.reduceSub, Int.reduceMul, Int.reduceNeg, Int.reducePow, Nat.reducePow,
              Int.reduceToNat, Nat.reduceSub, Nat.mul_one, Int.toNat_zero, prod_eta, List.nil_append, List.cons_append, List.append_nil, vconv, vmm, vidxA, viaddrA, iaddr_sl,
              iaddr_lsl, getE, vfield, vlen, fillC, fillE, List.replicate, elemsOf, List.length_map, f2iK_eq, bits_i64, bits_i32, bits_u64, bits_u32, bits_u8, e_mov, g_mov, e_pick,
              g_pick, e_bin, g_bin, ↓b_pick, ePk_true, ePk_false]
    repeat' (first
      | ((first | (refine eGI_of (fun h => ?_) (fun h => ?_)) | (refine eCc_of (fun h => ?_) (fun h => ?_)) | (refine ePk_of (fun h => ?_) (fun h => ?_))) <;> (try simp only [Bool.not_eq_true', Bool.not_eq_false'] at h) <;> simp only [h,
        eA_seq, eA_reg, eA_ret, eA_skip, eA_cond, eA_block, eA_exit, eCc_true, eCc_false, Kq_normal, Kq_ret, Kq_exit, Kb_normal, Kb_exit, Kb_ret, Kreg_eq, eI_nil, bindSt_some,
              bindSt_none, bindSt_ite, eR_eq, eGI_tt, eGI_ff, eGI_tf, eGI_ft, eop, vop, ev_t, ev_c, ev_f, Option.map, put_some, put_none, set_eq, setH_eq, get_eq, hp_eq, keep_cons,
              keep_nil, lk_cons, lk_nil, startSt, envOf, reduceIte, Nat.reduceEqDiff, Nat.reduceAdd, Nat.zero_add, Nat.add_zero, Nat.reduceMul, Nat.reduceLT, Nat.reduceLeDiff, bop,
              uop, intop, fltop, convop, true_or, or_true, Bool.false_eq_true, ret_ok, ret_normal, outV, rvV, rvs, ex_some, pureV, pureX, pureX.pure1', pure1, Bool.true_and,
              Bool.false_and, Bool.and_true, Bool.and_false, Option.isNone_none, AV.cells, AV.one, storable, laid, refless, refless1, List.all_cons, List.all_nil, List.length_cons,
              List.length_nil, List.getElem?_cons_zero, List.getElem?_cons_succ, List.set_cons_zero, List.set_cons_succ, List.set_nil, List.map_cons, List.map_nil, vload, loadC,
              storeC, vnil, vfaddr, vextract, callTo, List.mapM_cons, List.mapM_nil, Option.pure_def, Option.bind_eq_bind, Option.bind_some, tabOf_cons, flatT, flatE, flatC,
              and_self, and_true, true_and, implies_true, forall_const, not_true_eq_false, not_false_eq_true, false_implies, List.take_succ_cons, List.drop_succ_cons,
              List.take_zero, List.drop_zero, Bool.not_true, Bool.not_false, beq_self_eq_true, decide_true, decide_false, eq_self, Int.reduceEq, Int.reduceLE, Int.reduceLT,
              Bool.not_not, Bool.true_or, Bool.or_true, Bool.false_or, Bool.or_false, if_true, if_false, List.getElem?_nil, Kl_normal, Kl_exit, Kl_ret, fc24_0, fc24_1, fc24_2,
              fc24_3, fc24_4, fc24_5, fc24_6, fc24_7, fc24_8, cast_lit, toNat_lit, Int.reduceAdd, Int.reduceSub, Int.reduceMul, Int.reduceNeg, Int.reducePow, Nat.reducePow,
              Int.reduceToNat, Nat.reduceSub, Nat.mul_one, Int.toNat_zero, prod_eta, List.nil_append, List.cons_append, List.append_nil, vconv, vmm, vidxA, viaddrA, iaddr_sl,
              iaddr_lsl, getE, vfield, vlen, fillC, fillE, List.replicate, elemsOf, List.length_map, f2iK_eq, bits_i64, bits_i32, bits_u64, bits_u32, bits_u8, e_mov, g_mov, e_pick,
              g_pick, e_bin, g_bin, ↓b_pick, ePk_true, ePk_false]))
    all_goals (try simp only [*, m_laws_sameFloat, Bool.and_true, Bool.true_and, Bool.and_false, Bool.false_and, Bool.or_true, Bool.true_or, Bool.or_false, Bool.false_or, Bool.not_true, Bool.not_false, Bool.false_eq_true, if_true, if_false, reduceIte, decide_true, decide_false])
    all_goals (try (simp_all; done))
  · cases h
def m_laws_FnExactHingeAngle (x0 : (Nat × Nat × Nat × Nat)) (x1 : (Nat × Nat × Nat)) : Bool := (if (m_laws_sameFloat (widen (m_impl_HingeAngle (m_laws_toTurn x0) (m_laws_toVector
      x1))) (widen (m_spec_HingeAngle (m_laws_toTurn x0) (m_laws_toVector x1)))) = true then true else false)
def p_laws_FnExactHingeAngle (x0 : (Nat × Nat × Nat × Nat)) (x1 : (Nat × Nat × Nat)) : Bool := ((p_spec_HingeAngle (m_laws_toTurn x0) (m_laws_toVector x1)) && (p_impl_HingeAngle
      (m_laws_toTurn x0) (m_laws_toVector x1)))
def g_laws_FnExactHingeAngle : List AV → Option AV
  | [.agg [.flt .f32 y0, .flt .f32 y1, .flt .f32 y2, .flt .f32 y3], .agg [.flt .f32 y4, .flt .f32 y5, .flt .f32 y6]] => if
      p_laws_FnExactHingeAngle (y0, y1, y2, y3) (y4, y5, y6) = true then some (.bool (m_laws_FnExactHingeAngle (y0, y1, y2, y3) (y4, y5, y6))) else none
  | _ => none
def ic5 : ICode := (.seq (.reg [⟨(some 2), none, (.box 4 (.t 0))⟩, ⟨(some 3), none, (.box 3 (.t 1))⟩, ⟨(some 4), none, (.mov (.c (.bool false)))⟩] [2, 3]) (.seq (.reg [⟨(some 7),
      none, (.load (some 4) (.t 2))⟩, ⟨(some 8), none, (.call (.fn 22) [(.t 7)] [])⟩, ⟨(some 9), none, (.load (some 3) (.t 3))⟩, ⟨(some 10), none, (.call (.fn 12) [(.t 9)] [])⟩,
      ⟨(some 11), none, (.call (.fn 21) [(.t 8), (.t 10)] [])⟩, ⟨(some 5), none, (.mov (.t 11))⟩] [2, 3, 5]) (.seq (.reg [⟨(some 12), none, (.load (some 4) (.t 2))⟩, ⟨(some 13),
      none, (.call (.fn 22) [(.t 12)] [])⟩, ⟨(some 14), none, (.load (some 3) (.t 3))⟩, ⟨(some 15), none, (.call (.fn 12) [(.t 14)] [])⟩, ⟨(some 16), none, (.call (.fn 23) [(.t 13),
      (.t 15)] [])⟩, ⟨(some 6), none, (.mov (.t 16))⟩] [5, 6]) (.seq (.seq (.reg [⟨(some 17), none, (.mov (.t 6))⟩, ⟨(some 18), none, (.conv (.flt .f64) (.t 17))⟩, ⟨(some 19), none,
      (.mov (.t 5))⟩, ⟨(some 20), none, (.conv (.flt .f64) (.t 19))⟩, ⟨(some 21), none, (.call (.fn 24) [(.t 18), (.t 20)] [])⟩, ⟨(some 22), none, (.un .not (.t 21))⟩] [22]) (.cond
      (.t 22) (.seq (.reg [⟨(some 4), none, (.mov (.c (.bool false)))⟩] [4]) .ret) .skip)) (.seq (.reg [⟨(some 4), none, (.mov (.c (.bool true)))⟩] [4]) .ret)))))
def cp5 : CP := { n := 23, kp := [[2, 3], [2, 3, 5], [5, 6], [22], [4], [4]] }
theorem fc5_0 : IntKind.wrap .i64 (-1) = (-1) := by decide
theorem fc5_1 : IntKind.wrap .i64 1 = 1 := by decide
theorem fc5_2 : IntKind.wrap .i64 11 = 11 := by decide
theorem fc5_3 : IntKind.wrap .i64 13 = 13 := by decide
theorem fc5_4 : IntKind.wrap .i64 2 = 2 := by decide
theorem fc5_5 : IntKind.wrap .i64 3 = 3 := by decide
theorem fc5_6 : IntKind.wrap .i64 5 = 5 := by decide
theorem fc5_7 : IntKind.wrap .i64 7 = 7 := by decide
theorem fc5_8 : IntKind.wrap .i64 9 = 9 := by decide
theorem s5 : ∀ vs r, g_laws_FnExactHingeAngle vs = some r → Says Try.prog 5 vs r := by
  intro vs r h
  unfold g_laws_FnExactHingeAngle at h
  split at h
  · rename_i y0 y1 y2 y3 y4 y5 y6
    split at h
    · rename_i hp
      cases h
      refine spec_of (tab := tabOf [(12, g_laws_toVector), (21, g_spec_HingeAngle), (22, g_laws_toTurn), (23, g_impl_HingeAngle), (24, g_laws_sameFloat)]) (cp := cp5) (ic := ic5) (rvl := [(.t 4)]) hm (tabOk_cons s12 (tabOk_cons s21 (tabOk_cons s22 (tabOk_cons s23 (tabOk_cons s24 tabOk_nil))))) Try.func5 rfl rfl rfl (by kernel_rfl) rfl (Nat.le_of_ble_eq_true rfl) ?_
      show eA _ _ _ _
      unfold ic5
      simp only [p_laws_FnExactHingeAngle, Bool.and_eq_true, Bool.or_eq_true, decide_eq_true_eq, Bool.not_eq_true', decide_eq_false_iff_not] at hp
      simp only [
          hp, eA_seq, eA_reg, eA_ret, eA_skip, eA_cond, eA_block, eA_exit, eCc_true, eCc_false, Kq_normal, Kq_ret, Kq_exit, Kb_normal, Kb_exit, Kb_ret, Kreg_eq, eI_nil, bindSt_some,
                bindSt_none, bindSt_ite, eR_eq, eGI_tt, eGI_ff, eGI_tf, eGI_ft, eop, vop, ev_t, ev_c, ev_f, Option.map, put_some, put_none, set_eq, setH_eq, get_eq, hp_eq,
                keep_cons, keep_nil, lk_cons, lk_nil, startSt, envOf, reduceIte, Nat.reduceEqDiff, Nat.reduceAdd, Nat.zero_add, Nat.add_zero, Nat.reduceMul, Nat.reduceLT,
                Nat.reduceLeDiff, bop, uop, intop, fltop, convop, true_or, or_true, Bool.false_eq_true, ret_ok, ret_normal, outV, rvV, rvs, ex_some, pureV, pureX, pureX.pure1',
                pure1, Bool.true_and, Bool.false_and, Bool.and_true, Bool.and_false, Option.isNone_none, AV.cells, AV.one, storable, laid, refless, refless1, List.all_cons,
                List.all_nil, List.length_cons, List.length_nil, List.getElem?_cons_zero, List.getElem?_cons_succ, List.set_cons_zero, List.set_cons_succ, List.set_nil,
                List.map_cons, List.map_nil, vload, loadC, storeC, vnil, vfaddr, vextract, callTo, List.mapM_cons, List.mapM_nil, Option.pure_def, Option.bind_eq_bind,
                Option.bind_some, tabOf_cons, flatT, flatE, flatC, and_self, and_true, true_and, implies_true, forall_const, not_true_eq_false, not_false_eq_true, false_implies,
                List.take_succ_cons, List.drop_succ_cons, List.take_zero, List.drop_zero, Bool.not_true, Bool.not_false, beq_self_eq_true, decide_true, decide_false, eq_self,
                Int.reduceEq, Int.reduceLE, Int.reduceLT, Bool.not_not, Bool.true_or, Bool.or_true, Bool.false_or, Bool.or_false, if_true, if_false, List.getElem?_nil, Kl_normal,
                Kl_exit, Kl_ret, fc5_0, fc5_1, fc5_2, fc5_3, fc5_4, fc5_5, fc5_6, fc5_7, fc5_8, cast_lit, toNat_lit, Int.reduceAdd, Int.reduceSub, Int.reduceMul, Int.reduceNeg,
                Int.reducePow, Nat.reducePow, Int.reduceToNat, Nat.reduceSub, Nat.mul_one, Int.toNat_zero, prod_eta, List.nil_append, List.cons_append, List.append_nil, vconv, vmm,
                vidxA, viaddrA, iaddr_sl, iaddr_lsl, getE, vfield, vlen, fillC, fillE, List.replicate, elemsOf, List.length_map, f2iK_eq, bits_i64, bits_i32, bits_u64, bits_u32,
                bits_u8, e_mov, g_mov, e_box, g_box, e_load, g_load, e_un, g_un, e_conv, g_conv, e_call, g_call, g_laws_toVector, g_spec_HingeAngle, g_laws_toTurn,
                g_impl_HingeAngle, g_laws_sameFloat]
      repeat' (first
        | ((first | (refine eGI_of (fun h => ?_) (fun h => ?_)) | (refine eCc_of (fun h => ?_) (fun h => ?_))) <;> (try simp only [Bool.not_eq_true', Bool.not_eq_false'] at h) <;> (try simp only [h, reduceCtorEq, Bool.not_eq_true', decide_eq_false_iff_not, Bool.not_true, Bool.not_false, Bool.false_or, Bool.true_or, Bool.true_and, Bool.false_and, Bool.and_eq_true, Bool.or_eq_true, if_true, if_false, reduceIte, Bool.false_eq_true, and_true, true_and, false_or, or_false, decide_eq_true_eq, not_false_eq_true, not_true_eq_false] at hp) <;> (try (have h2 := h; simp only [decide_eq_true_eq, decide_eq_false_iff_not] at h2; simp only [h2, if_true, if_false, false_or, true_or, or_true, or_false, and_true, true_and, not_false_eq_true, not_true_eq_false] at hp)) <;> simp only [h,
          hp, eA_seq, eA_reg, eA_ret, eA_skip, eA_cond, eA_block, eA_exit, eCc_true, eCc_false, Kq_normal, Kq_ret, Kq_exit, Kb_normal, Kb_exit, Kb_ret, Kreg_eq, eI_nil, bindSt_some,
                bindSt_none, bindSt_ite, eR_eq, eGI_tt, eGI_ff, eGI_tf, eGI_ft, eop, vop, ev_t, ev_c, ev_f, Option.map, put_some, put_none, set_eq, setH_eq, get_eq, hp_eq,
                keep_cons, keep_nil, lk_cons, lk_nil, startSt, envOf, reduceIte, Nat.reduceEqDiff, Nat.reduceAdd, Nat.zero_add, Nat.add_zero, Nat.reduceMul, Nat.reduceLT,
                Nat.reduceLeDiff, bop, uop, intop, fltop, convop, true_or, or_true, Bool.false_eq_true, ret_ok, ret_normal, outV, rvV, rvs, ex_some, pureV, pureX, pureX.pure1',
                pure1, Bool.true_and, Bool.false_and, Bool.and_true, Bool.and_false, Option.isNone_none, AV.cells, AV.one, storable, laid, refless, refless1, List.all_cons,
                List.all_nil, List.length_cons, List.length_nil, List.getElem?_cons_zero, List.getElem?_cons_succ, List.set_cons_zero, List.set_cons_succ, List.set_nil,
                List.map_cons, List.map_nil, vload, loadC, storeC, vnil, vfaddr, vextract, callTo, List.mapM_cons, List.mapM_nil, Option.pure_def, Option.bind_eq_bind,
                Option.bind_some, tabOf_cons, flatT, flatE, flatC, and_self, and_true, true_and, implies_true, forall_const, not_true_eq_false, not_false_eq_true, false_implies,
                List.take_succ_cons, List.drop_succ_cons, List.take_zero, List.drop_zero, Bool.not_true, Bool.not_false, beq_self_eq_true, decide_true, decide_false, eq_self,
                Int.reduceEq, Int.reduceLE, Int.reduceLT, Bool.not_not, Bool.true_or, Bool.or_true, Bool.false_or, Bool.or_false, if_true, if_false, List.getElem?_nil, Kl_normal,
                Kl_exit, Kl_ret, fc5_0, fc5_1, fc5_2, fc5_3, fc5_4, fc5_5, fc5_6, fc5_7, fc5_8, cast_lit, toNat_lit, Int.reduceAdd, Int.reduceSub, Int.reduceMul, Int.reduceNeg,
                Int.reducePow, Nat.reducePow, Int.reduceToNat, Nat.reduceSub, Nat.mul_one, Int.toNat_zero, prod_eta, List.nil_append, List.cons_append, List.append_nil, vconv, vmm,
                vidxA, viaddrA, iaddr_sl, iaddr_lsl, getE, vfield, vlen, fillC, fillE, List.replicate, elemsOf, List.length_map, f2iK_eq, bits_i64, bits_i32, bits_u64, bits_u32,
                bits_u8, e_mov, g_mov, e_box, g_box, e_load, g_load, e_un, g_un, e_conv, g_conv, e_call, g_call, g_laws_toVector, g_spec_HingeAngle, g_laws_toTurn,
                g_impl_HingeAngle, g_laws_sameFloat]))
      all_goals (try simp only [*, m_laws_FnExactHingeAngle, Bool.and_true, Bool.true_and, Bool.and_false, Bool.false_and, Bool.or_true, Bool.true_or, Bool.or_false, Bool.false_or, Bool.not_true, Bool.not_false, Bool.false_eq_true, if_true, if_false, reduceIte, decide_true, decide_false])
      all_goals (try (simp_all; done))
    · cases h
  · cases h
end Go.Proofs
namespace Go.Proofs
open Go.Ab
theorem sameFloat_refl (x : Nat) : m_laws_sameFloat x x = true := by
  unfold m_laws_sameFloat
  by_cases h : feq .f64 x x = true
  · simp [h]
  · simp [h]
end Go.Proofs
namespace Go.Proofs
open Go.Ab Ieee
/-- the bound of the angle of two numbers that are not both zero -/
theorem wide_bd {y x : Nat} {sy sx : Bool} {vy vx : Nat} (hy : Ex FloatKind.f64.format sy y vy) (hx : Ex FloatKind.f64.format sx x vx) (h0 : vy ≠ 0 ∨ vx ≠ 0) : Bd (m_impl_wideAngle y x) 20 := by
  have ab : ∀ {c : Nat} {s : Bool} {v : Nat}, Ex FloatKind.f64.format s c v → Ex FloatKind.f64.format false (fabs c) v := by
    intro c s v h
    obtain ⟨m, e, h1, h2, h3⟩ := h
    exact ⟨m, e, fabs_number h1, h2, h3⟩
  have ha := ab hy
  have hb := ab hx
  have ho := ford_ex hb ha
  have t0 : Bd (if (flt .f64 (fabs x) (fabs y)) = true then (fdiv .f64 (fabs x) (fabs y)) else (fdiv .f64 (fabs y) (fabs x))) 0 := by
    have z : ∀ v : Nat, sg false v = (v : Int) := fun _ => rfl
    rw [z, z] at ho
    by_cases h : flt .f64 (fabs x) (fabs y) = true
    · rw [if_pos h]
      unfold flt at h
      rw [ho] at h
      have h5 : compare (vx : Int) (vy : Int) = .lt := by simpa using h
      have h6 := Int.compare_eq_lt.1 h5
      exact bd_ratio hb ha (by omega) (by omega)
    · rw [if_neg h]
      have h5 : ¬ (vx : Int) < (vy : Int) := by
        intro h6
        apply h
        unfold flt
        rw [ho, Int.compare_eq_lt.2 h6]; rfl
      exact bd_ratio ha hb (by omega) (by omega)
  have t1 : Bd (v_impl_wideAngle_1 y x) 0 := bd_half t0
  have t2 : Bd (v_impl_wideAngle_2 y x) 0 := bd_half t1
  have t3 : Bd (v_impl_wideAngle_3 y x) 0 := bd_half t2
  have u : Bd (fmul .f64 (v_impl_wideAngle_3 y x) (v_impl_wideAngle_3 y x)) 0 := bd_mul t3 t3 (by omega)
  have term : ∀ {p n : Nat} (k : Nat), Bd p n → 1 ≤ k → k < 100 → n + 1 ≤ 900 → Bd (fsub .f64 (fdiv .f64 4607182418800017408 (ofInt .f64 (k : Int))) (fmul .f64 (fmul .f64 (v_impl_wideAngle_3 y x) (v_impl_wideAngle_3 y x)) p)) (n + 1) := by
    intro p n k hp h1 h2 h3
    exact bd_term u hp h1 (by omega) (by omega)
  have mul0 : ∀ {p n : Nat}, Bd p n → n ≤ 900 → Bd (fmul .f64 (fmul .f64 (v_impl_wideAngle_3 y x) (v_impl_wideAngle_3 y x)) p) n := by
    intro p n hp hn
    have := bd_mul u hp (by omega)
    rw [Nat.zero_add] at this; exact this
  have p1 := term 15 bd_zero (by omega) (by omega) (by omega)
  have p2 := term 13 p1 (by omega) (by omega) (by omega)
  have p3 := term 11 p2 (by omega) (by omega) (by omega)
  have p4 := term 9 p3 (by omega) (by omega) (by omega)
  have p5 := term 7 p4 (by omega) (by omega) (by omega)
  have p6 := term 5 p5 (by omega) (by omega) (by omega)
  have p7 := term 3 p6 (by omega) (by omega) (by omega)
  have p8 := term 1 p7 (by omega) (by omega) (by omega)
  have q : Bd (fmul .f64 (v_impl_wideAngle_3 y x) _) _ := bd_mul t3 p8 (by omega)
  have c8 : Bd 4620693217682128896 4 := bd_const (s := false) (m := 2 ^ 52) (e := -49) (by decide) (by decide) (by decide) (by decide)
  have q8 := bd_mul c8 q (by omega)
  have gpi : Ge1 4618760256179416344 := by
    intro W hW
    refine ⟨false, 7074237752028440, -50, by decide, by decide, ?_⟩
    rw [lp64, show (-50 - -1074 : Int).toNat = W - 50 by omega]
    have : (2 : Nat) ^ W = 2 ^ 50 * 2 ^ (W - 50) := by rw [← Nat.pow_add]; exact congrArg (2 ^ ·) (by omega)
    rw [this]
    exact Nat.mul_le_mul_right _ (by decide)
  have r : Bd (v_impl_wideAngle_11 y x) 18 := (bd_div q8 gpi (by omega)).mono (by omega)
  have c14 : Bd 4598175219545276416 18 := bd_const (s := false) (m := 2 ^ 52) (e := -54) (by decide) (by decide) (by decide) (by decide)
  have c12 : Bd 4602678819172646912 19 := bd_const (s := false) (m := 2 ^ 52) (e := -53) (by decide) (by decide) (by decide) (by decide)
  have T : Bd (if (flt .f64 (fabs x) (fabs y)) = true then (fsub .f64 4598175219545276416 (v_impl_wideAngle_11 y x)) else (v_impl_wideAngle_11 y x)) 19 := by
    split
    · exact bd_sub c14 r (by omega)
    · exact r.mono (by omega)
  have T2 : Bd (v_impl_wideAngle_13 y x) 20 := by
    unfold v_impl_wideAngle_13
    split
    · exact bd_sub c12 T (by omega)
    · exact T.mono (by omega)
  unfold m_impl_wideAngle
  split
  · exact bd_neg T2
  · exact T2
end Go.Proofs
namespace Go.Proofs
open Go.Ab Ieee
theorem nan_ok : narrowOk m_math_NaN = true := by decide
theorem zero_number {x : Nat} {s : Bool} {m : Nat} {e : Int} (h : FloatKind.f32.decode x = .number s m e) (hz : ¬ feq .f32 x 0 = true) : m ≠ 0 := by
  rintro rfl
  apply hz
  have h0 : Ex FloatKind.f32.format false 0 0 := ⟨0, -149, decode_zero32, by decide, by decide⟩
  have o2 := order_ex (ex32 h) h0
  unfold feq ford Format.order
  rw [o2, Nat.zero_mul]
  cases s <;> rfl
theorem wide_ok {y x : Nat} (hy : feq .f32 (fsub .f32 y y) 0 = true) (hx : feq .f32 (fsub .f32 x x) 0 = true) (hz : ¬ feq .f32 y 0 = true ∨ ¬ feq .f32 x 0 = true) : narrowOk (m_impl_wideAngle (widen y) (widen x)) = true := by
  obtain ⟨sy, my, ey, dy⟩ := fin32 hy
  obtain ⟨sx, mx, ex, dx⟩ := fin32 hx
  refine narrowOk_of_bd (wide_bd (widen_ex dy) (widen_ex dx) ?_) (by omega)
  rcases hz with h | h
  · exact .inl (Nat.ne_of_gt (Nat.mul_pos (Nat.pos_of_ne_zero (zero_number dy h)) (Nat.two_pow_pos _)))
  · exact .inr (Nat.ne_of_gt (Nat.mul_pos (Nat.pos_of_ne_zero (zero_number dx h)) (Nat.two_pow_pos _)))
theorem wide_eq (y x : Nat) : m_spec_l01AngleWide y x = (if (feq .f64 (fsub .f64 y y) 0) = true then (if (feq .f64 (fsub .f64 x x) 0) = true then (if (feq .f64 x 0) = true then (if (feq .f64 y 0) = true then 0 else m_impl_wideAngle y x) else m_impl_wideAngle y x) else m_math_NaN) else m_math_NaN) := rfl
theorem angle_all (y x : Nat) : p_spec_l01Angle y x = true ∧ p_impl_AngleTurns y x = true ∧ m_spec_l01Angle y x = m_impl_AngleTurns y x := by
  unfold p_spec_l01Angle p_impl_AngleTurns m_spec_l01Angle m_impl_AngleTurns p_spec_l01Narrow m_spec_l01Narrow m_impl_IsFinite p_impl_notNumber m_impl_notNumber
  rw [wide_eq, fin_widen, fin_widen, zero_widen, zero_widen]
  have n0 : narrowOk 0 = true := by decide
  have z0 : narrow 0 = 0 := by decide
  by_cases hy : feq .f32 (fsub .f32 y y) 0 = true
  · by_cases hx : feq .f32 (fsub .f32 x x) 0 = true
    · by_cases zx : feq .f32 x 0 = true
      · by_cases zy : feq .f32 y 0 = true
        · simp [hy, hx, zx, zy, n0, z0]
        · have := wide_ok hy hx (.inl zy)
          have zy' : feq .f32 y 0 = false := by simpa using zy
          simp [hy, hx, zx, zy', this]
      · have := wide_ok hy hx (.inr zx)
        have zx' : feq .f32 x 0 = false := by simpa using zx
        simp [hy, hx, zx', this]
    · have hx' : feq .f32 (fsub .f32 x x) 0 = false := by simpa using hx
      simp [hy, hx', nan_ok]
  · have hy' : feq .f32 (fsub .f32 y y) 0 = false := by simpa using hy
    by_cases hx : feq .f32 (fsub .f32 x x) 0 = true
    · simp [hy', hx, nan_ok]
    · have hx' : feq .f32 (fsub .f32 x x) 0 = false := by simpa using hx
      simp [hy', hx', nan_ok]
end Go.Proofs
namespace Go.Proofs
open Go.Ab
theorem inner_eq (v w : Nat × Nat × Nat) : m_spec_l01Inner v w = m_impl_InnerOf v w := rfl
theorem hinge_all (t : Nat × Nat × Nat × Nat) (v : Nat × Nat × Nat) : p_spec_l04Hinge t v = true ∧ p_impl_HingeAngle t v = true ∧ m_spec_l04Hinge t v = m_impl_HingeAngle t v := by
  refine ⟨(angle_all _ _).1, (angle_all _ _).2.1, ?_⟩
  unfold m_spec_l04Hinge m_impl_HingeAngle v_impl_HingeAngle_0
  rw [(angle_all _ _).2.2]
  rw [show m_spec_l01Inner v (m_spec_l02Axis t) = m_impl_InnerOf v (m_impl_Turn_vector t) from rfl]
  generalize (fmul .f32 1073741824 (m_impl_AngleTurns (m_impl_InnerOf v (m_impl_Turn_vector t)) t.1)) = a
  show (if flt .f32 1056964608 a = true then fsub .f32 a 1065353216 else if flt .f32 a 3204448256 = true then fadd .f32 a 1065353216 else a) = _
  by_cases h : flt .f32 1056964608 a = true
  · simp [h, hinge_step h]
  · simp [h]
end Go.Proofs
namespace Go.Proofs
open Go.Ab
theorem law_HingeAngle (a b c d : Nat) (_ : Canon .f32 a) (_ : Canon .f32 b) (_ : Canon .f32 c) (_ : Canon .f32 d) (e f g : Nat) (_ : Canon .f32 e) (_ : Canon .f32 f) (_ : Canon .f32 g) :
    g_laws_FnExactHingeAngle [.agg [.flt .f32 a, .flt .f32 b, .flt .f32 c, .flt .f32 d], .agg [.flt .f32 e, .flt .f32 f, .flt .f32 g]] = some (.bool true) := by
  obtain ⟨k1, k2, k3⟩ := hinge_all (a, b, c, d) (e, f, g)
  have h1 : p_laws_FnExactHingeAngle (a, b, c, d) (e, f, g) = true := by
    show (p_spec_l04Hinge (a, b, c, d) (e, f, g) && p_impl_HingeAngle (a, b, c, d) (e, f, g)) = true
    rw [k1, k2]; rfl
  have h2 : m_laws_FnExactHingeAngle (a, b, c, d) (e, f, g) = true := by
    show (if (m_laws_sameFloat (widen (m_impl_HingeAngle (a, b, c, d) (e, f, g))) (widen (m_spec_l04Hinge (a, b, c, d) (e, f, g)))) = true then true else false) = true
    rw [k3, sameFloat_refl]; rfl
  unfold g_laws_FnExactHingeAngle
  simp [h1, h2]
end Go.Proofs
