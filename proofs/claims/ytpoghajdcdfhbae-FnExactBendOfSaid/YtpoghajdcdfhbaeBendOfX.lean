/- What functions that FnExactBendOf reaches compute, and that the program's and the reference's answers are the same. No conditions. -/
import Derived.Test.YtpoghajdcdfhbaeFwF
import Derived.Test.YtpoghajdcdfhbaeProg
import Derived.KernelRfl
set_option maxRecDepth 100000
set_option maxHeartbeats 4000000
set_option linter.all false
namespace Go.Proofs
open Go.Ab
theorem hm : Try.prog.follows .mixedOrders = true := by kernel_rfl
def m_spec_l01Finite (x0 : Nat) : Bool := (feq .f32 (fsub .f32 x0 x0) 0)
def g_spec_l01Finite : List AV → Option AV
  | [.flt .f32 y0] => some (.bool (m_spec_l01Finite y0))
  | _ => none
def ic58 : ICode := (.seq (.reg [⟨(some 2), none, (.mov (.c (.bool false)))⟩] [0]) (.seq (.reg [⟨(some 3), none, (.mov (.t 0))⟩, ⟨(some 4), none, (.mov (.t 0))⟩, ⟨(some 5), none,
      (.bin .sub false (.t 3) (.t 4))⟩, ⟨(some 6), none, (.bin .eql false (.t 5) (.c (.flt .f32 0)))⟩, ⟨(some 2), none, (.mov (.t 6))⟩] [2]) .ret))
def cp58 : CP := { n := 7, kp := [[0], [2]] }
theorem fc58_0 : IntKind.wrap .i64 (-1) = (-1) := by decide
theorem fc58_1 : IntKind.wrap .i64 1 = 1 := by decide
theorem fc58_2 : IntKind.wrap .i64 11 = 11 := by decide
theorem fc58_3 : IntKind.wrap .i64 13 = 13 := by decide
theorem fc58_4 : IntKind.wrap .i64 2 = 2 := by decide
theorem fc58_5 : IntKind.wrap .i64 3 = 3 := by decide
theorem fc58_6 : IntKind.wrap .i64 5 = 5 := by decide
theorem fc58_7 : IntKind.wrap .i64 7 = 7 := by decide
theorem fc58_8 : IntKind.wrap .i64 9 = 9 := by decide
theorem s58 : ∀ vs r, g_spec_l01Finite vs = some r → Says Try.prog 58 vs r := by
  intro vs r h
  unfold g_spec_l01Finite at h
  split at h
  · rename_i y0
    cases h
    refine spec_of (tab := tabOf []) (cp := cp58) (ic := ic58) (rvl := [(.t 2)]) hm tabOk_nil Try.func58 rfl rfl rfl (by kernel_rfl) rfl (Nat.le_of_ble_eq_true rfl) ?_
    show eA _ _ _ _
    unfold ic58
    simp only [
        eA_seq, eA_reg, eA_ret, eA_skip, eA_cond, eA_block, eA_exit, eCc_true, eCc_false, Kq_normal, Kq_ret, Kq_exit, Kb_normal, Kb_exit, Kb_ret, Kreg_eq, eI_nil, bindSt_some,
              bindSt_none, bindSt_ite, eR_eq, eGI_tt, eGI_ff, eGI_tf, eGI_ft, eop, vop, ev_t, ev_c, ev_f, Option.map, put_some, put_none, set_eq, setH_eq, get_eq, hp_eq, keep_cons,
              keep_nil, lk_cons, lk_nil, startSt, envOf, reduceIte, Nat.reduceEqDiff, Nat.reduceAdd, Nat.zero_add, Nat.add_zero, Nat.reduceMul, Nat.reduceLT, Nat.reduceLeDiff, bop,
              uop, intop, fltop, convop, true_or, or_true, Bool.false_eq_true, ret_ok, ret_normal, outV, rvV, rvs, ex_some, pureV, pureX, pureX.pure1', pure1, Bool.true_and,
              Bool.false_and, Bool.and_true, Bool.and_false, Option.isNone_none, AV.cells, AV.one, storable, laid, refless, refless1, List.all_cons, List.all_nil, List.length_cons,
              List.length_nil, List.getElem?_cons_zero, List.getElem?_cons_succ, List.set_cons_zero, List.set_cons_succ, List.set_nil, List.map_cons, List.map_nil, vload, loadC,
              storeC, vnil, vfaddr, vextract, callTo, List.mapM_cons, List.mapM_nil, Option.pure_def, Option.bind_eq_bind, Option.bind_some, tabOf_cons, flatT, flatE, flatC,
              and_self, and_true, true_and, implies_true, forall_const, not_true_eq_false, not_false_eq_true, false_implies, List.take_succ_cons, List.drop_succ_cons,
              List.take_zero, List.drop_zero, Bool.not_true, Bool.not_false, beq_self_eq_true, decide_true, decide_false, eq_self, Int.reduceEq, Int.reduceLE, Int.reduceLT,
              Bool.not_not, Bool.true_or, Bool.or_true, Bool.false_or, Bool.or_false, if_true, if_false, List.getElem?_nil, Kl_normal, Kl_exit, Kl_ret, fc58_0, fc58_1, fc58_2,
              fc58_3, fc58_4, fc58_5, fc58_6, fc58_7, fc58_8, cast_lit, toNat_lit, Int.reduceAdd, Int.reduceSub, Int.reduceMul, Int.reduceNeg, Int.reducePow, Nat.reducePow,
              Int.reduceToNat, Nat.reduceSub, Nat.mul_one, Int.toNat_zero, prod_eta, List.nil_append, List.cons_append, List.append_nil, Int.le_refl, Nat.le_refl, true_implies,
              take_all, vconv, vmm, vidxA, viaddrA, iaddr_sl, iaddr_lsl, getE, vfield, vlen, fillC, fillE, List.replicate, elemsOf, List.length_map, f2iK_eq, bits_i64, bits_i32,
              bits_u64, bits_u32, bits_u8, e_mov, g_mov, e_bin, g_bin, dF32_map, dF64_map, dI64_map, dU8_map, dBool_map, dStr_map, decL, dF32, dF64, dI64, dU8, dBool, dStr]
    repeat' (first
      | ((first | (refine eGI_of (fun h => ?_) (fun h => ?_)) | (refine eCc_of (fun h => ?_) (fun h => ?_))) <;> (try simp only [Bool.not_eq_true', Bool.not_eq_false'] at h) <;> simp only [h,
        eA_seq, eA_reg, eA_ret, eA_skip, eA_cond, eA_block, eA_exit, eCc_true, eCc_false, Kq_normal, Kq_ret, Kq_exit, Kb_normal, Kb_exit, Kb_ret, Kreg_eq, eI_nil, bindSt_some,
              bindSt_none, bindSt_ite, eR_eq, eGI_tt, eGI_ff, eGI_tf, eGI_ft, eop, vop, ev_t, ev_c, ev_f, Option.map, put_some, put_none, set_eq, setH_eq, get_eq, hp_eq, keep_cons,
              keep_nil, lk_cons, lk_nil, startSt, envOf, reduceIte, Nat.reduceEqDiff, Nat.reduceAdd, Nat.zero_add, Nat.add_zero, Nat.reduceMul, Nat.reduceLT, Nat.reduceLeDiff, bop,
              uop, intop, fltop, convop, true_or, or_true, Bool.false_eq_true, ret_ok, ret_normal, outV, rvV, rvs, ex_some, pureV, pureX, pureX.pure1', pure1, Bool.true_and,
              Bool.false_and, Bool.and_true, Bool.and_false, Option.isNone_none, AV.cells, AV.one, storable, laid, refless, refless1, List.all_cons, List.all_nil, List.length_cons,
              List.length_nil, List.getElem?_cons_zero, List.getElem?_cons_succ, List.set_cons_zero, List.set_cons_succ, List.set_nil, List.map_cons, List.map_nil, vload, loadC,
              storeC, vnil, vfaddr, vextract, callTo, List.mapM_cons, List.mapM_nil, Option.pure_def, Option.bind_eq_bind, Option.bind_some, tabOf_cons, flatT, flatE, flatC,
              and_self, and_true, true_and, implies_true, forall_const, not_true_eq_false, not_false_eq_true, false_implies, List.take_succ_cons, List.drop_succ_cons,
              List.take_zero, List.drop_zero, Bool.not_true, Bool.not_false, beq_self_eq_true, decide_true, decide_false, eq_self, Int.reduceEq, Int.reduceLE, Int.reduceLT,
              Bool.not_not, Bool.true_or, Bool.or_true, Bool.false_or, Bool.or_false, if_true, if_false, List.getElem?_nil, Kl_normal, Kl_exit, Kl_ret, fc58_0, fc58_1, fc58_2,
              fc58_3, fc58_4, fc58_5, fc58_6, fc58_7, fc58_8, cast_lit, toNat_lit, Int.reduceAdd, Int.reduceSub, Int.reduceMul, Int.reduceNeg, Int.reducePow, Nat.reducePow,
              Int.reduceToNat, Nat.reduceSub, Nat.mul_one, Int.toNat_zero, prod_eta, List.nil_append, List.cons_append, List.append_nil, Int.le_refl, Nat.le_refl, true_implies,
              take_all, vconv, vmm, vidxA, viaddrA, iaddr_sl, iaddr_lsl, getE, vfield, vlen, fillC, fillE, List.replicate, elemsOf, List.length_map, f2iK_eq, bits_i64, bits_i32,
              bits_u64, bits_u32, bits_u8, e_mov, g_mov, e_bin, g_bin, dF32_map, dF64_map, dI64_map, dU8_map, dBool_map, dStr_map, decL, dF32, dF64, dI64, dU8, dBool, dStr]))
    all_goals (try simp only [*, m_spec_l01Finite, Bool.and_true, Bool.true_and, Bool.and_false, Bool.false_and, Bool.or_true, Bool.true_or, Bool.or_false, Bool.false_or, Bool.not_true, Bool.not_false, Bool.false_eq_true, if_true, if_false, reduceIte, decide_true, decide_false])
    all_goals (try (simp_all; done))
  · cases h
def m_spec_l04Length (x0 : Nat) : Bool := (if (m_spec_l01Finite x0) = true then (flt .f32 0 x0) else false)
def g_spec_l04Length : List AV → Option AV
  | [.flt .f32 y0] => some (.bool (m_spec_l04Length y0))
  | _ => none
def ic36 : ICode := (.seq (.reg [⟨(some 2), none, (.mov (.c (.bool false)))⟩] [0]) (.seq (.reg [⟨(some 3), none, (.mov (.t 0))⟩, ⟨(some 4), none, (.call (.fn 58) [(.t 3)] [])⟩,
      ⟨(some 5), none, (.mov (.t 4))⟩, ⟨(some 6), (some (5, true)), (.mov (.t 0))⟩, ⟨(some 7), (some (5, true)), (.bin .gtr false (.t 6) (.c (.flt .f32 0)))⟩, ⟨(some 8), none,
      (.pick (.t 5) (.t 7) (.c (.bool false)))⟩, ⟨(some 2), none, (.mov (.t 8))⟩] [2]) .ret))
def cp36 : CP := { n := 9, kp := [[0], [2]] }
theorem fc36_0 : IntKind.wrap .i64 (-1) = (-1) := by decide
theorem fc36_1 : IntKind.wrap .i64 1 = 1 := by decide
theorem fc36_2 : IntKind.wrap .i64 11 = 11 := by decide
theorem fc36_3 : IntKind.wrap .i64 13 = 13 := by decide
theorem fc36_4 : IntKind.wrap .i64 2 = 2 := by decide
theorem fc36_5 : IntKind.wrap .i64 3 = 3 := by decide
theorem fc36_6 : IntKind.wrap .i64 5 = 5 := by decide
theorem fc36_7 : IntKind.wrap .i64 7 = 7 := by decide
theorem fc36_8 : IntKind.wrap .i64 9 = 9 := by decide
theorem s36 : ∀ vs r, g_spec_l04Length vs = some r → Says Try.prog 36 vs r := by
  intro vs r h
  unfold g_spec_l04Length at h
  split at h
  · rename_i y0
    cases h
    refine spec_of (tab := tabOf [(58, g_spec_l01Finite)]) (cp := cp36) (ic := ic36) (rvl := [(.t 2)]) hm (tabOk_cons s58 tabOk_nil) Try.func36 rfl rfl rfl (by kernel_rfl) rfl (Nat.le_of_ble_eq_true rfl) ?_
    show eA _ _ _ _
    unfold ic36
    simp only [
        eA_seq, eA_reg, eA_ret, eA_skip, eA_cond, eA_block, eA_exit, eCc_true, eCc_false, Kq_normal, Kq_ret, Kq_exit, Kb_normal, Kb_exit, Kb_ret, Kreg_eq, eI_nil, bindSt_some,
              bindSt_none, bindSt_ite, eR_eq, eGI_tt, eGI_ff, eGI_tf, eGI_ft, eop, vop, ev_t, ev_c, ev_f, Option.map, put_some, put_none, set_eq, setH_eq, get_eq, hp_eq, keep_cons,
              keep_nil, lk_cons, lk_nil, startSt, envOf, reduceIte, Nat.reduceEqDiff, Nat.reduceAdd, Nat.zero_add, Nat.add_zero, Nat.reduceMul, Nat.reduceLT, Nat.reduceLeDiff, bop,
              uop, intop, fltop, convop, true_or, or_true, Bool.false_eq_true, ret_ok, ret_normal, outV, rvV, rvs, ex_some, pureV, pureX, pureX.pure1', pure1, Bool.true_and,
              Bool.false_and, Bool.and_true, Bool.and_false, Option.isNone_none, AV.cells, AV.one, storable, laid, refless, refless1, List.all_cons, List.all_nil, List.length_cons,
              List.length_nil, List.getElem?_cons_zero, List.getElem?_cons_succ, List.set_cons_zero, List.set_cons_succ, List.set_nil, List.map_cons, List.map_nil, vload, loadC,
              storeC, vnil, vfaddr, vextract, callTo, List.mapM_cons, List.mapM_nil, Option.pure_def, Option.bind_eq_bind, Option.bind_some, tabOf_cons, flatT, flatE, flatC,
              and_self, and_true, true_and, implies_true, forall_const, not_true_eq_false, not_false_eq_true, false_implies, List.take_succ_cons, List.drop_succ_cons,
              List.take_zero, List.drop_zero, Bool.not_true, Bool.not_false, beq_self_eq_true, decide_true, decide_false, eq_self, Int.reduceEq, Int.reduceLE, Int.reduceLT,
              Bool.not_not, Bool.true_or, Bool.or_true, Bool.false_or, Bool.or_false, if_true, if_false, List.getElem?_nil, Kl_normal, Kl_exit, Kl_ret, fc36_0, fc36_1, fc36_2,
              fc36_3, fc36_4, fc36_5, fc36_6, fc36_7, fc36_8, cast_lit, toNat_lit, Int.reduceAdd, Int.reduceSub, Int.reduceMul, Int.reduceNeg, Int.reducePow, Nat.reducePow,
              Int.reduceToNat, Nat.reduceSub, Nat.mul_one, Int.toNat_zero, prod_eta, List.nil_append, List.cons_append, List.append_nil, Int.le_refl, Nat.le_refl, true_implies,
              take_all, vconv, vmm, vidxA, viaddrA, iaddr_sl, iaddr_lsl, getE, vfield, vlen, fillC, fillE, List.replicate, elemsOf, List.length_map, f2iK_eq, bits_i64, bits_i32,
              bits_u64, bits_u32, bits_u8, e_mov, g_mov, e_pick, g_pick, e_bin, g_bin, e_call, g_call, g_spec_l01Finite, dF32_map, dF64_map, dI64_map, dU8_map, dBool_map, dStr_map,
              decL, dF32, dF64, dI64, dU8, dBool, dStr, ↓b_pick, ePk_true, ePk_false]
    repeat' (first
      | ((first | (refine eGI_of (fun h => ?_) (fun h => ?_)) | (refine eCc_of (fun h => ?_) (fun h => ?_)) | (refine ePk_of (fun h => ?_) (fun h => ?_))) <;> (try simp only [Bool.not_eq_true', Bool.not_eq_false'] at h) <;> simp only [h,
        eA_seq, eA_reg, eA_ret, eA_skip, eA_cond, eA_block, eA_exit, eCc_true, eCc_false, Kq_normal, Kq_ret, Kq_exit, Kb_normal, Kb_exit, Kb_ret, Kreg_eq, eI_nil, bindSt_some,
              bindSt_none, bindSt_ite, eR_eq, eGI_tt, eGI_ff, eGI_tf, eGI_ft, eop, vop, ev_t, ev_c, ev_f, Option.map, put_some, put_none, set_eq, setH_eq, get_eq, hp_eq, keep_cons,
              keep_nil, lk_cons, lk_nil, startSt, envOf, reduceIte, Nat.reduceEqDiff, Nat.reduceAdd, Nat.zero_add, Nat.add_zero, Nat.reduceMul, Nat.reduceLT, Nat.reduceLeDiff, bop,
              uop, intop, fltop, convop, true_or, or_true, Bool.false_eq_true, ret_ok, ret_normal, outV, rvV, rvs, ex_some, pureV, pureX, pureX.pure1', pure1, Bool.true_and,
              Bool.false_and, Bool.and_true, Bool.and_false, Option.isNone_none, AV.cells, AV.one, storable, laid, refless, refless1, List.all_cons, List.all_nil, List.length_cons,
              List.length_nil, List.getElem?_cons_zero, List.getElem?_cons_succ, List.set_cons_zero, List.set_cons_succ, List.set_nil, List.map_cons, List.map_nil, vload, loadC,
              storeC, vnil, vfaddr, vextract, callTo, List.mapM_cons, List.mapM_nil, Option.pure_def, Option.bind_eq_bind, Option.bind_some, tabOf_cons, flatT, flatE, flatC,
              and_self, and_true, true_and, implies_true, forall_const, not_true_eq_false, not_false_eq_true, false_implies, List.take_succ_cons, List.drop_succ_cons,
              List.take_zero, List.drop_zero, Bool.not_true, Bool.not_false, beq_self_eq_true, decide_true, decide_false, eq_self, Int.reduceEq, Int.reduceLE, Int.reduceLT,
              Bool.not_not, Bool.true_or, Bool.or_true, Bool.false_or, Bool.or_false, if_true, if_false, List.getElem?_nil, Kl_normal, Kl_exit, Kl_ret, fc36_0, fc36_1, fc36_2,
              fc36_3, fc36_4, fc36_5, fc36_6, fc36_7, fc36_8, cast_lit, toNat_lit, Int.reduceAdd, Int.reduceSub, Int.reduceMul, Int.reduceNeg, Int.reducePow, Nat.reducePow,
              Int.reduceToNat, Nat.reduceSub, Nat.mul_one, Int.toNat_zero, prod_eta, List.nil_append, List.cons_append, List.append_nil, Int.le_refl, Nat.le_refl, true_implies,
              take_all, vconv, vmm, vidxA, viaddrA, iaddr_sl, iaddr_lsl, getE, vfield, vlen, fillC, fillE, List.replicate, elemsOf, List.length_map, f2iK_eq, bits_i64, bits_i32,
              bits_u64, bits_u32, bits_u8, e_mov, g_mov, e_pick, g_pick, e_bin, g_bin, e_call, g_call, g_spec_l01Finite, dF32_map, dF64_map, dI64_map, dU8_map, dBool_map, dStr_map,
              decL, dF32, dF64, dI64, dU8, dBool, dStr, ↓b_pick, ePk_true, ePk_false]))
    all_goals (try simp only [*, m_spec_l04Length, Bool.and_true, Bool.true_and, Bool.and_false, Bool.false_and, Bool.or_true, Bool.true_or, Bool.or_false, Bool.false_or, Bool.not_true, Bool.not_false, Bool.false_eq_true, if_true, if_false, reduceIte, decide_true, decide_false])
    all_goals (try (simp_all; done))
  · cases h
theorem s80 : ∀ vs r, g_amin vs = some r → Says Try.prog 80 vs r := t_amin Try.func80 (by kernel_rfl) rfl (by kernel_rfl) (by kernel_rfl)
def m_math_Min (x0 : Nat) (x1 : Nat) : Nat := (amin x0 x1)
def g_math_Min : List AV → Option AV
  | [.flt .f64 y0, .flt .f64 y1] => some (.flt .f64 (m_math_Min y0 y1))
  | _ => none
def ic60 : ICode := (.seq (.reg [⟨(some 4), none, (.mov (.c (.flt .f64 0)))⟩] [0, 1]) (.seq (.cond (.c (.bool true)) (.seq (.reg [⟨(some 5), none, (.mov (.t 0))⟩, ⟨(some 6), none,
      (.mov (.t 1))⟩, ⟨(some 7), none, (.call (.fn 80) [(.t 5), (.t 6)] [])⟩, ⟨(some 4), none, (.mov (.t 7))⟩] [4]) .ret) .skip) (.seq (.reg [⟨(some 8), none, (.mov (.t 0))⟩, ⟨(some
      9), none, (.mov (.t 1))⟩, ⟨(some 10), none, (.call (.fn 81) [(.t 8), (.t 9)] [])⟩, ⟨(some 4), none, (.mov (.t 10))⟩] [4]) .ret)))
def cp60 : CP := { n := 11, kp := [[0, 1], [4], [4]] }
theorem fc60_0 : IntKind.wrap .i64 (-1) = (-1) := by decide
theorem fc60_1 : IntKind.wrap .i64 1 = 1 := by decide
theorem fc60_2 : IntKind.wrap .i64 11 = 11 := by decide
theorem fc60_3 : IntKind.wrap .i64 13 = 13 := by decide
theorem fc60_4 : IntKind.wrap .i64 2 = 2 := by decide
theorem fc60_5 : IntKind.wrap .i64 3 = 3 := by decide
theorem fc60_6 : IntKind.wrap .i64 5 = 5 := by decide
theorem fc60_7 : IntKind.wrap .i64 7 = 7 := by decide
theorem fc60_8 : IntKind.wrap .i64 9 = 9 := by decide
theorem s60 : ∀ vs r, g_math_Min vs = some r → Says Try.prog 60 vs r := by
  intro vs r h
  unfold g_math_Min at h
  split at h
  · rename_i y0 y1
    cases h
    refine spec_of (tab := tabOf [(80, g_amin)]) (cp := cp60) (ic := ic60) (rvl := [(.t 4)]) hm (tabOk_cons s80 tabOk_nil) Try.func60 rfl rfl rfl (by kernel_rfl) rfl (Nat.le_of_ble_eq_true rfl) ?_
    show eA _ _ _ _
    unfold ic60
    simp only [
        eA_seq, eA_reg, eA_ret, eA_skip, eA_cond, eA_block, eA_exit, eCc_true, eCc_false, Kq_normal, Kq_ret, Kq_exit, Kb_normal, Kb_exit, Kb_ret, Kreg_eq, eI_nil, bindSt_some,
              bindSt_none, bindSt_ite, eR_eq, eGI_tt, eGI_ff, eGI_tf, eGI_ft, eop, vop, ev_t, ev_c, ev_f, Option.map, put_some, put_none, set_eq, setH_eq, get_eq, hp_eq, keep_cons,
              keep_nil, lk_cons, lk_nil, startSt, envOf, reduceIte, Nat.reduceEqDiff, Nat.reduceAdd, Nat.zero_add, Nat.add_zero, Nat.reduceMul, Nat.reduceLT, Nat.reduceLeDiff, bop,
              uop, intop, fltop, convop, true_or, or_true, Bool.false_eq_true, ret_ok, ret_normal, outV, rvV, rvs, ex_some, pureV, pureX, pureX.pure1', pure1, Bool.true_and,
              Bool.false_and, Bool.and_true, Bool.and_false, Option.isNone_none, AV.cells, AV.one, storable, laid, refless, refless1, List.all_cons, List.all_nil, List.length_cons,
              List.length_nil, List.getElem?_cons_zero, List.getElem?_cons_succ, List.set_cons_zero, List.set_cons_succ, List.set_nil, List.map_cons, List.map_nil, vload, loadC,
              storeC, vnil, vfaddr, vextract, callTo, List.mapM_cons, List.mapM_nil, Option.pure_def, Option.bind_eq_bind, Option.bind_some, tabOf_cons, flatT, flatE, flatC,
              and_self, and_true, true_and, implies_true, forall_const, not_true_eq_false, not_false_eq_true, false_implies, List.take_succ_cons, List.drop_succ_cons,
              List.take_zero, List.drop_zero, Bool.not_true, Bool.not_false, beq_self_eq_true, decide_true, decide_false, eq_self, Int.reduceEq, Int.reduceLE, Int.reduceLT,
              Bool.not_not, Bool.true_or, Bool.or_true, Bool.false_or, Bool.or_false, if_true, if_false, List.getElem?_nil, Kl_normal, Kl_exit, Kl_ret, fc60_0, fc60_1, fc60_2,
              fc60_3, fc60_4, fc60_5, fc60_6, fc60_7, fc60_8, cast_lit, toNat_lit, Int.reduceAdd, Int.reduceSub, Int.reduceMul, Int.reduceNeg, Int.reducePow, Nat.reducePow,
              Int.reduceToNat, Nat.reduceSub, Nat.mul_one, Int.toNat_zero, prod_eta, List.nil_append, List.cons_append, List.append_nil, Int.le_refl, Nat.le_refl, true_implies,
              take_all, vconv, vmm, vidxA, viaddrA, iaddr_sl, iaddr_lsl, getE, vfield, vlen, fillC, fillE, List.replicate, elemsOf, List.length_map, f2iK_eq, bits_i64, bits_i32,
              bits_u64, bits_u32, bits_u8, e_mov, g_mov, e_call, g_call, g_amin, dF32_map, dF64_map, dI64_map, dU8_map, dBool_map, dStr_map, decL, dF32, dF64, dI64, dU8, dBool, dStr]
    repeat' (first
      | ((first | (refine eGI_of (fun h => ?_) (fun h => ?_)) | (refine eCc_of (fun h => ?_) (fun h => ?_))) <;> (try simp only [Bool.not_eq_true', Bool.not_eq_false'] at h) <;> simp only [h,
        eA_seq, eA_reg, eA_ret, eA_skip, eA_cond, eA_block, eA_exit, eCc_true, eCc_false, Kq_normal, Kq_ret, Kq_exit, Kb_normal, Kb_exit, Kb_ret, Kreg_eq, eI_nil, bindSt_some,
              bindSt_none, bindSt_ite, eR_eq, eGI_tt, eGI_ff, eGI_tf, eGI_ft, eop, vop, ev_t, ev_c, ev_f, Option.map, put_some, put_none, set_eq, setH_eq, get_eq, hp_eq, keep_cons,
              keep_nil, lk_cons, lk_nil, startSt, envOf, reduceIte, Nat.reduceEqDiff, Nat.reduceAdd, Nat.zero_add, Nat.add_zero, Nat.reduceMul, Nat.reduceLT, Nat.reduceLeDiff, bop,
              uop, intop, fltop, convop, true_or, or_true, Bool.false_eq_true, ret_ok, ret_normal, outV, rvV, rvs, ex_some, pureV, pureX, pureX.pure1', pure1, Bool.true_and,
              Bool.false_and, Bool.and_true, Bool.and_false, Option.isNone_none, AV.cells, AV.one, storable, laid, refless, refless1, List.all_cons, List.all_nil, List.length_cons,
              List.length_nil, List.getElem?_cons_zero, List.getElem?_cons_succ, List.set_cons_zero, List.set_cons_succ, List.set_nil, List.map_cons, List.map_nil, vload, loadC,
              storeC, vnil, vfaddr, vextract, callTo, List.mapM_cons, List.mapM_nil, Option.pure_def, Option.bind_eq_bind, Option.bind_some, tabOf_cons, flatT, flatE, flatC,
              and_self, and_true, true_and, implies_true, forall_const, not_true_eq_false, not_false_eq_true, false_implies, List.take_succ_cons, List.drop_succ_cons,
              List.take_zero, List.drop_zero, Bool.not_true, Bool.not_false, beq_self_eq_true, decide_true, decide_false, eq_self, Int.reduceEq, Int.reduceLE, Int.reduceLT,
              Bool.not_not, Bool.true_or, Bool.or_true, Bool.false_or, Bool.or_false, if_true, if_false, List.getElem?_nil, Kl_normal, Kl_exit, Kl_ret, fc60_0, fc60_1, fc60_2,
              fc60_3, fc60_4, fc60_5, fc60_6, fc60_7, fc60_8, cast_lit, toNat_lit, Int.reduceAdd, Int.reduceSub, Int.reduceMul, Int.reduceNeg, Int.reducePow, Nat.reducePow,
              Int.reduceToNat, Nat.reduceSub, Nat.mul_one, Int.toNat_zero, prod_eta, List.nil_append, List.cons_append, List.append_nil, Int.le_refl, Nat.le_refl, true_implies,
              take_all, vconv, vmm, vidxA, viaddrA, iaddr_sl, iaddr_lsl, getE, vfield, vlen, fillC, fillE, List.replicate, elemsOf, List.length_map, f2iK_eq, bits_i64, bits_i32,
              bits_u64, bits_u32, bits_u8, e_mov, g_mov, e_call, g_call, g_amin, dF32_map, dF64_map, dI64_map, dU8_map, dBool_map, dStr_map, decL, dF32, dF64, dI64, dU8, dBool, dStr]))
    all_goals (try simp only [*, m_math_Min, Bool.and_true, Bool.true_and, Bool.and_false, Bool.false_and, Bool.or_true, Bool.true_or, Bool.or_false, Bool.false_or, Bool.not_true, Bool.not_false, Bool.false_eq_true, if_true, if_false, reduceIte, decide_true, decide_false])
    all_goals (try (simp_all; done))
  · cases h
theorem s78 : ∀ vs r, g_amax vs = some r → Says Try.prog 78 vs r := t_amax Try.func78 (by kernel_rfl) rfl (by kernel_rfl) (by kernel_rfl)
def m_math_Max (x0 : Nat) (x1 : Nat) : Nat := (amax x0 x1)
def g_math_Max : List AV → Option AV
  | [.flt .f64 y0, .flt .f64 y1] => some (.flt .f64 (m_math_Max y0 y1))
  | _ => none
def ic59 : ICode := (.seq (.reg [⟨(some 4), none, (.mov (.c (.flt .f64 0)))⟩] [0, 1]) (.seq (.cond (.c (.bool true)) (.seq (.reg [⟨(some 5), none, (.mov (.t 0))⟩, ⟨(some 6), none,
      (.mov (.t 1))⟩, ⟨(some 7), none, (.call (.fn 78) [(.t 5), (.t 6)] [])⟩, ⟨(some 4), none, (.mov (.t 7))⟩] [4]) .ret) .skip) (.seq (.reg [⟨(some 8), none, (.mov (.t 0))⟩, ⟨(some
      9), none, (.mov (.t 1))⟩, ⟨(some 10), none, (.call (.fn 79) [(.t 8), (.t 9)] [])⟩, ⟨(some 4), none, (.mov (.t 10))⟩] [4]) .ret)))
def cp59 : CP := { n := 11, kp := [[0, 1], [4], [4]] }
theorem fc59_0 : IntKind.wrap .i64 (-1) = (-1) := by decide
theorem fc59_1 : IntKind.wrap .i64 1 = 1 := by decide
theorem fc59_2 : IntKind.wrap .i64 11 = 11 := by decide
theorem fc59_3 : IntKind.wrap .i64 13 = 13 := by decide
theorem fc59_4 : IntKind.wrap .i64 2 = 2 := by decide
theorem fc59_5 : IntKind.wrap .i64 3 = 3 := by decide
theorem fc59_6 : IntKind.wrap .i64 5 = 5 := by decide
theorem fc59_7 : IntKind.wrap .i64 7 = 7 := by decide
theorem fc59_8 : IntKind.wrap .i64 9 = 9 := by decide
theorem s59 : ∀ vs r, g_math_Max vs = some r → Says Try.prog 59 vs r := by
  intro vs r h
  unfold g_math_Max at h
  split at h
  · rename_i y0 y1
    cases h
    refine spec_of (tab := tabOf [(78, g_amax)]) (cp := cp59) (ic := ic59) (rvl := [(.t 4)]) hm (tabOk_cons s78 tabOk_nil) Try.func59 rfl rfl rfl (by kernel_rfl) rfl (Nat.le_of_ble_eq_true rfl) ?_
    show eA _ _ _ _
    unfold ic59
    simp only [
        eA_seq, eA_reg, eA_ret, eA_skip, eA_cond, eA_block, eA_exit, eCc_true, eCc_false, Kq_normal, Kq_ret, Kq_exit, Kb_normal, Kb_exit, Kb_ret, Kreg_eq, eI_nil, bindSt_some,
              bindSt_none, bindSt_ite, eR_eq, eGI_tt, eGI_ff, eGI_tf, eGI_ft, eop, vop, ev_t, ev_c, ev_f, Option.map, put_some, put_none, set_eq, setH_eq, get_eq, hp_eq, keep_cons,
              keep_nil, lk_cons, lk_nil, startSt, envOf, reduceIte, Nat.reduceEqDiff, Nat.reduceAdd, Nat.zero_add, Nat.add_zero, Nat.reduceMul, Nat.reduceLT, Nat.reduceLeDiff, bop,
              uop, intop, fltop, convop, true_or, or_true, Bool.false_eq_true, ret_ok, ret_normal, outV, rvV, rvs, ex_some, pureV, pureX, pureX.pure1', pure1, Bool.true_and,
              Bool.false_and, Bool.and_true, Bool.and_false, Option.isNone_none, AV.cells, AV.one, storable, laid, refless, refless1, List.all_cons, List.all_nil, List.length_cons,
              List.length_nil, List.getElem?_cons_zero, List.getElem?_cons_succ, List.set_cons_zero, List.set_cons_succ, List.set_nil, List.map_cons, List.map_nil, vload, loadC,
              storeC, vnil, vfaddr, vextract, callTo, List.mapM_cons, List.mapM_nil, Option.pure_def, Option.bind_eq_bind, Option.bind_some, tabOf_cons, flatT, flatE, flatC,
              and_self, and_true, true_and, implies_true, forall_const, not_true_eq_false, not_false_eq_true, false_implies, List.take_succ_cons, List.drop_succ_cons,
              List.take_zero, List.drop_zero, Bool.not_true, Bool.not_false, beq_self_eq_true, decide_true, decide_false, eq_self, Int.reduceEq, Int.reduceLE, Int.reduceLT,
              Bool.not_not, Bool.true_or, Bool.or_true, Bool.false_or, Bool.or_false, if_true, if_false, List.getElem?_nil, Kl_normal, Kl_exit, Kl_ret, fc59_0, fc59_1, fc59_2,
              fc59_3, fc59_4, fc59_5, fc59_6, fc59_7, fc59_8, cast_lit, toNat_lit, Int.reduceAdd, Int.reduceSub, Int.reduceMul, Int.reduceNeg, Int.reducePow, Nat.reducePow,
              Int.reduceToNat, Nat.reduceSub, Nat.mul_one, Int.toNat_zero, prod_eta, List.nil_append, List.cons_append, List.append_nil, Int.le_refl, Nat.le_refl, true_implies,
              take_all, vconv, vmm, vidxA, viaddrA, iaddr_sl, iaddr_lsl, getE, vfield, vlen, fillC, fillE, List.replicate, elemsOf, List.length_map, f2iK_eq, bits_i64, bits_i32,
              bits_u64, bits_u32, bits_u8, e_mov, g_mov, e_call, g_call, g_amax, dF32_map, dF64_map, dI64_map, dU8_map, dBool_map, dStr_map, decL, dF32, dF64, dI64, dU8, dBool, dStr]
    repeat' (first
      | ((first | (refine eGI_of (fun h => ?_) (fun h => ?_)) | (refine eCc_of (fun h => ?_) (fun h => ?_))) <;> (try simp only [Bool.not_eq_true', Bool.not_eq_false'] at h) <;> simp only [h,
        eA_seq, eA_reg, eA_ret, eA_skip, eA_cond, eA_block, eA_exit, eCc_true, eCc_false, Kq_normal, Kq_ret, Kq_exit, Kb_normal, Kb_exit, Kb_ret, Kreg_eq, eI_nil, bindSt_some,
              bindSt_none, bindSt_ite, eR_eq, eGI_tt, eGI_ff, eGI_tf, eGI_ft, eop, vop, ev_t, ev_c, ev_f, Option.map, put_some, put_none, set_eq, setH_eq, get_eq, hp_eq, keep_cons,
              keep_nil, lk_cons, lk_nil, startSt, envOf, reduceIte, Nat.reduceEqDiff, Nat.reduceAdd, Nat.zero_add, Nat.add_zero, Nat.reduceMul, Nat.reduceLT, Nat.reduceLeDiff, bop,
              uop, intop, fltop, convop, true_or, or_true, Bool.false_eq_true, ret_ok, ret_normal, outV, rvV, rvs, ex_some, pureV, pureX, pureX.pure1', pure1, Bool.true_and,
              Bool.false_and, Bool.and_true, Bool.and_false, Option.isNone_none, AV.cells, AV.one, storable, laid, refless, refless1, List.all_cons, List.all_nil, List.length_cons,
              List.length_nil, List.getElem?_cons_zero, List.getElem?_cons_succ, List.set_cons_zero, List.set_cons_succ, List.set_nil, List.map_cons, List.map_nil, vload, loadC,
              storeC, vnil, vfaddr, vextract, callTo, List.mapM_cons, List.mapM_nil, Option.pure_def, Option.bind_eq_bind, Option.bind_some, tabOf_cons, flatT, flatE, flatC,
              and_self, and_true, true_and, implies_true, forall_const, not_true_eq_false, not_false_eq_true, false_implies, List.take_succ_cons, List.drop_succ_cons,
              List.take_zero, List.drop_zero, Bool.not_true, Bool.not_false, beq_self_eq_true, decide_true, decide_false, eq_self, Int.reduceEq, Int.reduceLE, Int.reduceLT,
              Bool.not_not, Bool.true_or, Bool.or_true, Bool.false_or, Bool.or_false, if_true, if_false, List.getElem?_nil, Kl_normal, Kl_exit, Kl_ret, fc59_0, fc59_1, fc59_2,
              fc59_3, fc59_4, fc59_5, fc59_6, fc59_7, fc59_8, cast_lit, toNat_lit, Int.reduceAdd, Int.reduceSub, Int.reduceMul, Int.reduceNeg, Int.reducePow, Nat.reducePow,
              Int.reduceToNat, Nat.reduceSub, Nat.mul_one, Int.toNat_zero, prod_eta, List.nil_append, List.cons_append, List.append_nil, Int.le_refl, Nat.le_refl, true_implies,
              take_all, vconv, vmm, vidxA, viaddrA, iaddr_sl, iaddr_lsl, getE, vfield, vlen, fillC, fillE, List.replicate, elemsOf, List.length_map, f2iK_eq, bits_i64, bits_i32,
              bits_u64, bits_u32, bits_u8, e_mov, g_mov, e_call, g_call, g_amax, dF32_map, dF64_map, dI64_map, dU8_map, dBool_map, dStr_map, decL, dF32, dF64, dI64, dU8, dBool, dStr]))
    all_goals (try simp only [*, m_math_Max, Bool.and_true, Bool.true_and, Bool.and_false, Bool.false_and, Bool.or_true, Bool.true_or, Bool.or_false, Bool.false_or, Bool.not_true, Bool.not_false, Bool.false_eq_true, if_true, if_false, reduceIte, decide_true, decide_false])
    all_goals (try (simp_all; done))
  · cases h
theorem s72 : ∀ vs r, g_sqrt vs = some r → Says Try.prog 72 vs r := t_sqrt Try.func72 (by kernel_rfl) rfl (by kernel_rfl) (by kernel_rfl)
def m_math_Sqrt (x0 : Nat) : Nat := (fsqrt x0)
def g_math_Sqrt : List AV → Option AV
  | [.flt .f64 y0] => some (.flt .f64 (m_math_Sqrt y0))
  | _ => none
def ic53 : ICode := (.seq (.reg [⟨(some 2), none, (.mov (.c (.flt .f64 0)))⟩] [0]) (.seq (.reg [⟨(some 3), none, (.mov (.t 0))⟩, ⟨(some 4), none, (.call (.fn 72) [(.t 3)] [])⟩,
      ⟨(some 2), none, (.mov (.t 4))⟩] [2]) .ret))
def cp53 : CP := { n := 5, kp := [[0], [2]] }
theorem fc53_0 : IntKind.wrap .i64 (-1) = (-1) := by decide
theorem fc53_1 : IntKind.wrap .i64 1 = 1 := by decide
theorem fc53_2 : IntKind.wrap .i64 11 = 11 := by decide
theorem fc53_3 : IntKind.wrap .i64 13 = 13 := by decide
theorem fc53_4 : IntKind.wrap .i64 2 = 2 := by decide
theorem fc53_5 : IntKind.wrap .i64 3 = 3 := by decide
theorem fc53_6 : IntKind.wrap .i64 5 = 5 := by decide
theorem fc53_7 : IntKind.wrap .i64 7 = 7 := by decide
theorem fc53_8 : IntKind.wrap .i64 9 = 9 := by decide
theorem s53 : ∀ vs r, g_math_Sqrt vs = some r → Says Try.prog 53 vs r := by
  intro vs r h
  unfold g_math_Sqrt at h
  split at h
  · rename_i y0
    cases h
    refine spec_of (tab := tabOf [(72, g_sqrt)]) (cp := cp53) (ic := ic53) (rvl := [(.t 2)]) hm (tabOk_cons s72 tabOk_nil) Try.func53 rfl rfl rfl (by kernel_rfl) rfl (Nat.le_of_ble_eq_true rfl) ?_
    show eA _ _ _ _
    unfold ic53
    simp only [
        eA_seq, eA_reg, eA_ret, eA_skip, eA_cond, eA_block, eA_exit, eCc_true, eCc_false, Kq_normal, Kq_ret, Kq_exit, Kb_normal, Kb_exit, Kb_ret, Kreg_eq, eI_nil, bindSt_some,
              bindSt_none, bindSt_ite, eR_eq, eGI_tt, eGI_ff, eGI_tf, eGI_ft, eop, vop, ev_t, ev_c, ev_f, Option.map, put_some, put_none, set_eq, setH_eq, get_eq, hp_eq, keep_cons,
              keep_nil, lk_cons, lk_nil, startSt, envOf, reduceIte, Nat.reduceEqDiff, Nat.reduceAdd, Nat.zero_add, Nat.add_zero, Nat.reduceMul, Nat.reduceLT, Nat.reduceLeDiff, bop,
              uop, intop, fltop, convop, true_or, or_true, Bool.false_eq_true, ret_ok, ret_normal, outV, rvV, rvs, ex_some, pureV, pureX, pureX.pure1', pure1, Bool.true_and,
              Bool.false_and, Bool.and_true, Bool.and_false, Option.isNone_none, AV.cells, AV.one, storable, laid, refless, refless1, List.all_cons, List.all_nil, List.length_cons,
              List.length_nil, List.getElem?_cons_zero, List.getElem?_cons_succ, List.set_cons_zero, List.set_cons_succ, List.set_nil, List.map_cons, List.map_nil, vload, loadC,
              storeC, vnil, vfaddr, vextract, callTo, List.mapM_cons, List.mapM_nil, Option.pure_def, Option.bind_eq_bind, Option.bind_some, tabOf_cons, flatT, flatE, flatC,
              and_self, and_true, true_and, implies_true, forall_const, not_true_eq_false, not_false_eq_true, false_implies, List.take_succ_cons, List.drop_succ_cons,
              List.take_zero, List.drop_zero, Bool.not_true, Bool.not_false, beq_self_eq_true, decide_true, decide_false, eq_self, Int.reduceEq, Int.reduceLE, Int.reduceLT,
              Bool.not_not, Bool.true_or, Bool.or_true, Bool.false_or, Bool.or_false, if_true, if_false, List.getElem?_nil, Kl_normal, Kl_exit, Kl_ret, fc53_0, fc53_1, fc53_2,
              fc53_3, fc53_4, fc53_5, fc53_6, fc53_7, fc53_8, cast_lit, toNat_lit, Int.reduceAdd, Int.reduceSub, Int.reduceMul, Int.reduceNeg, Int.reducePow, Nat.reducePow,
              Int.reduceToNat, Nat.reduceSub, Nat.mul_one, Int.toNat_zero, prod_eta, List.nil_append, List.cons_append, List.append_nil, Int.le_refl, Nat.le_refl, true_implies,
              take_all, vconv, vmm, vidxA, viaddrA, iaddr_sl, iaddr_lsl, getE, vfield, vlen, fillC, fillE, List.replicate, elemsOf, List.length_map, f2iK_eq, bits_i64, bits_i32,
              bits_u64, bits_u32, bits_u8, e_mov, g_mov, e_call, g_call, g_sqrt, dF32_map, dF64_map, dI64_map, dU8_map, dBool_map, dStr_map, decL, dF32, dF64, dI64, dU8, dBool, dStr]
    repeat' (first
      | ((first | (refine eGI_of (fun h => ?_) (fun h => ?_)) | (refine eCc_of (fun h => ?_) (fun h => ?_))) <;> (try simp only [Bool.not_eq_true', Bool.not_eq_false'] at h) <;> simp only [h,
        eA_seq, eA_reg, eA_ret, eA_skip, eA_cond, eA_block, eA_exit, eCc_true, eCc_false, Kq_normal, Kq_ret, Kq_exit, Kb_normal, Kb_exit, Kb_ret, Kreg_eq, eI_nil, bindSt_some,
              bindSt_none, bindSt_ite, eR_eq, eGI_tt, eGI_ff, eGI_tf, eGI_ft, eop, vop, ev_t, ev_c, ev_f, Option.map, put_some, put_none, set_eq, setH_eq, get_eq, hp_eq, keep_cons,
              keep_nil, lk_cons, lk_nil, startSt, envOf, reduceIte, Nat.reduceEqDiff, Nat.reduceAdd, Nat.zero_add, Nat.add_zero, Nat.reduceMul, Nat.reduceLT, Nat.reduceLeDiff, bop,
              uop, intop, fltop, convop, true_or, or_true, Bool.false_eq_true, ret_ok, ret_normal, outV, rvV, rvs, ex_some, pureV, pureX, pureX.pure1', pure1, Bool.true_and,
              Bool.false_and, Bool.and_true, Bool.and_false, Option.isNone_none, AV.cells, AV.one, storable, laid, refless, refless1, List.all_cons, List.all_nil, List.length_cons,
              List.length_nil, List.getElem?_cons_zero, List.getElem?_cons_succ, List.set_cons_zero, List.set_cons_succ, List.set_nil, List.map_cons, List.map_nil, vload, loadC,
              storeC, vnil, vfaddr, vextract, callTo, List.mapM_cons, List.mapM_nil, Option.pure_def, Option.bind_eq_bind, Option.bind_some, tabOf_cons, flatT, flatE, flatC,
              and_self, and_true, true_and, implies_true, forall_const, not_true_eq_false, not_false_eq_true, false_implies, List.take_succ_cons, List.drop_succ_cons,
              List.take_zero, List.drop_zero, Bool.not_true, Bool.not_false, beq_self_eq_true, decide_true, decide_false, eq_self, Int.reduceEq, Int.reduceLE, Int.reduceLT,
              Bool.not_not, Bool.true_or, Bool.or_true, Bool.false_or, Bool.or_false, if_true, if_false, List.getElem?_nil, Kl_normal, Kl_exit, Kl_ret, fc53_0, fc53_1, fc53_2,
              fc53_3, fc53_4, fc53_5, fc53_6, fc53_7, fc53_8, cast_lit, toNat_lit, Int.reduceAdd, Int.reduceSub, Int.reduceMul, Int.reduceNeg, Int.reducePow, Nat.reducePow,
              Int.reduceToNat, Nat.reduceSub, Nat.mul_one, Int.toNat_zero, prod_eta, List.nil_append, List.cons_append, List.append_nil, Int.le_refl, Nat.le_refl, true_implies,
              take_all, vconv, vmm, vidxA, viaddrA, iaddr_sl, iaddr_lsl, getE, vfield, vlen, fillC, fillE, List.replicate, elemsOf, List.length_map, f2iK_eq, bits_i64, bits_i32,
              bits_u64, bits_u32, bits_u8, e_mov, g_mov, e_call, g_call, g_sqrt, dF32_map, dF64_map, dI64_map, dU8_map, dBool_map, dStr_map, decL, dF32, dF64, dI64, dU8, dBool, dStr]))
    all_goals (try simp only [*, m_math_Sqrt, Bool.and_true, Bool.true_and, Bool.and_false, Bool.false_and, Bool.or_true, Bool.true_or, Bool.or_false, Bool.false_or, Bool.not_true, Bool.not_false, Bool.false_eq_true, if_true, if_false, reduceIte, decide_true, decide_false])
    all_goals (try (simp_all; done))
  · cases h
theorem s92 : ∀ vs r, g_f64from vs = some r → Says Try.prog 92 vs r := t_f64from Try.func92 (by kernel_rfl) rfl (by kernel_rfl) (by kernel_rfl)
def m_math_NaN  : Nat := (cn .f64 (Int.toNat 9221120237041090561))
def g_math_NaN : List AV → Option AV
  | [] => some (.flt .f64 (m_math_NaN))
  | _ => none
def ic73 : ICode := (.seq (.reg [⟨(some 0), none, (.mov (.c (.flt .f64 0)))⟩] []) (.seq (.reg [⟨(some 1), none, (.call (.fn 92) [(.c (.int .u64 9221120237041090561))] [])⟩, ⟨(some
      0), none, (.mov (.t 1))⟩] [0]) .ret))
def cp73 : CP := { n := 2, kp := [[], [0]] }
theorem fc73_0 : IntKind.wrap .i64 (-1) = (-1) := by decide
theorem fc73_1 : IntKind.wrap .i64 1 = 1 := by decide
theorem fc73_2 : IntKind.wrap .i64 11 = 11 := by decide
theorem fc73_3 : IntKind.wrap .i64 13 = 13 := by decide
theorem fc73_4 : IntKind.wrap .i64 2 = 2 := by decide
theorem fc73_5 : IntKind.wrap .i64 3 = 3 := by decide
theorem fc73_6 : IntKind.wrap .i64 5 = 5 := by decide
theorem fc73_7 : IntKind.wrap .i64 7 = 7 := by decide
theorem fc73_8 : IntKind.wrap .i64 9 = 9 := by decide
theorem s73 : ∀ vs r, g_math_NaN vs = some r → Says Try.prog 73 vs r := by
  intro vs r h
  unfold g_math_NaN at h
  split at h
  · cases h
    refine spec_of (tab := tabOf [(92, g_f64from)]) (cp := cp73) (ic := ic73) (rvl := [(.t 0)]) hm (tabOk_cons s92 tabOk_nil) Try.func73 rfl rfl rfl (by kernel_rfl) rfl (Nat.le_of_ble_eq_true rfl) ?_
    show eA _ _ _ _
    unfold ic73
    simp only [
        eA_seq, eA_reg, eA_ret, eA_skip, eA_cond, eA_block, eA_exit, eCc_true, eCc_false, Kq_normal, Kq_ret, Kq_exit, Kb_normal, Kb_exit, Kb_ret, Kreg_eq, eI_nil, bindSt_some,
              bindSt_none, bindSt_ite, eR_eq, eGI_tt, eGI_ff, eGI_tf, eGI_ft, eop, vop, ev_t, ev_c, ev_f, Option.map, put_some, put_none, set_eq, setH_eq, get_eq, hp_eq, keep_cons,
              keep_nil, lk_cons, lk_nil, startSt, envOf, reduceIte, Nat.reduceEqDiff, Nat.reduceAdd, Nat.zero_add, Nat.add_zero, Nat.reduceMul, Nat.reduceLT, Nat.reduceLeDiff, bop,
              uop, intop, fltop, convop, true_or, or_true, Bool.false_eq_true, ret_ok, ret_normal, outV, rvV, rvs, ex_some, pureV, pureX, pureX.pure1', pure1, Bool.true_and,
              Bool.false_and, Bool.and_true, Bool.and_false, Option.isNone_none, AV.cells, AV.one, storable, laid, refless, refless1, List.all_cons, List.all_nil, List.length_cons,
              List.length_nil, List.getElem?_cons_zero, List.getElem?_cons_succ, List.set_cons_zero, List.set_cons_succ, List.set_nil, List.map_cons, List.map_nil, vload, loadC,
              storeC, vnil, vfaddr, vextract, callTo, List.mapM_cons, List.mapM_nil, Option.pure_def, Option.bind_eq_bind, Option.bind_some, tabOf_cons, flatT, flatE, flatC,
              and_self, and_true, true_and, implies_true, forall_const, not_true_eq_false, not_false_eq_true, false_implies, List.take_succ_cons, List.drop_succ_cons,
              List.take_zero, List.drop_zero, Bool.not_true, Bool.not_false, beq_self_eq_true, decide_true, decide_false, eq_self, Int.reduceEq, Int.reduceLE, Int.reduceLT,
              Bool.not_not, Bool.true_or, Bool.or_true, Bool.false_or, Bool.or_false, if_true, if_false, List.getElem?_nil, Kl_normal, Kl_exit, Kl_ret, fc73_0, fc73_1, fc73_2,
              fc73_3, fc73_4, fc73_5, fc73_6, fc73_7, fc73_8, cast_lit, toNat_lit, Int.reduceAdd, Int.reduceSub, Int.reduceMul, Int.reduceNeg, Int.reducePow, Nat.reducePow,
              Int.reduceToNat, Nat.reduceSub, Nat.mul_one, Int.toNat_zero, prod_eta, List.nil_append, List.cons_append, List.append_nil, Int.le_refl, Nat.le_refl, true_implies,
              take_all, vconv, vmm, vidxA, viaddrA, iaddr_sl, iaddr_lsl, getE, vfield, vlen, fillC, fillE, List.replicate, elemsOf, List.length_map, f2iK_eq, bits_i64, bits_i32,
              bits_u64, bits_u32, bits_u8, e_mov, g_mov, e_call, g_call, g_f64from, dF32_map, dF64_map, dI64_map, dU8_map, dBool_map, dStr_map, decL, dF32, dF64, dI64, dU8, dBool,
              dStr]
    repeat' (first
      | ((first | (refine eGI_of (fun h => ?_) (fun h => ?_)) | (refine eCc_of (fun h => ?_) (fun h => ?_))) <;> (try simp only [Bool.not_eq_true', Bool.not_eq_false'] at h) <;> simp only [h,
        eA_seq, eA_reg, eA_ret, eA_skip, eA_cond, eA_block, eA_exit, eCc_true, eCc_false, Kq_normal, Kq_ret, Kq_exit, Kb_normal, Kb_exit, Kb_ret, Kreg_eq, eI_nil, bindSt_some,
              bindSt_none, bindSt_ite, eR_eq, eGI_tt, eGI_ff, eGI_tf, eGI_ft, eop, vop, ev_t, ev_c, ev_f, Option.map, put_some, put_none, set_eq, setH_eq, get_eq, hp_eq, keep_cons,
              keep_nil, lk_cons, lk_nil, startSt, envOf, reduceIte, Nat.reduceEqDiff, Nat.reduceAdd, Nat.zero_add, Nat.add_zero, Nat.reduceMul, Nat.reduceLT, Nat.reduceLeDiff, bop,
              uop, intop, fltop, convop, true_or, or_true, Bool.false_eq_true, ret_ok, ret_normal, outV, rvV, rvs, ex_some, pureV, pureX, pureX.pure1', pure1, Bool.true_and,
              Bool.false_and, Bool.and_true, Bool.and_false, Option.isNone_none, AV.cells, AV.one, storable, laid, refless, refless1, List.all_cons, List.all_nil, List.length_cons,
              List.length_nil, List.getElem?_cons_zero, List.getElem?_cons_succ, List.set_cons_zero, List.set_cons_succ, List.set_nil, List.map_cons, List.map_nil, vload, loadC,
              storeC, vnil, vfaddr, vextract, callTo, List.mapM_cons, List.mapM_nil, Option.pure_def, Option.bind_eq_bind, Option.bind_some, tabOf_cons, flatT, flatE, flatC,
              and_self, and_true, true_and, implies_true, forall_const, not_true_eq_false, not_false_eq_true, false_implies, List.take_succ_cons, List.drop_succ_cons,
              List.take_zero, List.drop_zero, Bool.not_true, Bool.not_false, beq_self_eq_true, decide_true, decide_false, eq_self, Int.reduceEq, Int.reduceLE, Int.reduceLT,
              Bool.not_not, Bool.true_or, Bool.or_true, Bool.false_or, Bool.or_false, if_true, if_false, List.getElem?_nil, Kl_normal, Kl_exit, Kl_ret, fc73_0, fc73_1, fc73_2,
              fc73_3, fc73_4, fc73_5, fc73_6, fc73_7, fc73_8, cast_lit, toNat_lit, Int.reduceAdd, Int.reduceSub, Int.reduceMul, Int.reduceNeg, Int.reducePow, Nat.reducePow,
              Int.reduceToNat, Nat.reduceSub, Nat.mul_one, Int.toNat_zero, prod_eta, List.nil_append, List.cons_append, List.append_nil, Int.le_refl, Nat.le_refl, true_implies,
              take_all, vconv, vmm, vidxA, viaddrA, iaddr_sl, iaddr_lsl, getE, vfield, vlen, fillC, fillE, List.replicate, elemsOf, List.length_map, f2iK_eq, bits_i64, bits_i32,
              bits_u64, bits_u32, bits_u8, e_mov, g_mov, e_call, g_call, g_f64from, dF32_map, dF64_map, dI64_map, dU8_map, dBool_map, dStr_map, decL, dF32, dF64, dI64, dU8, dBool,
              dStr]))
    all_goals (try simp only [*, m_math_NaN, Bool.and_true, Bool.true_and, Bool.and_false, Bool.false_and, Bool.or_true, Bool.true_or, Bool.or_false, Bool.false_or, Bool.not_true, Bool.not_false, Bool.false_eq_true, if_true, if_false, reduceIte, decide_true, decide_false])
    all_goals (try (simp_all; done))
  · cases h
theorem s93 : ∀ vs r, g_f64bits vs = some r → Says Try.prog 93 vs r := t_f64bits Try.func93 (by kernel_rfl) rfl (by kernel_rfl) (by kernel_rfl)
def ic71 : ICode := (.seq (.reg [⟨(some 2), none, (.mov (.c (.flt .f64 0)))⟩] [0]) (.seq (.reg [⟨(some 3), none, (.mov (.t 0))⟩, ⟨(some 4), none, (.call (.fn 93) [(.t 3)] [])⟩,
      ⟨(some 5), none, (.bin .andNot false (.t 4) (.c (.int .u64 9223372036854775808)))⟩, ⟨(some 6), none, (.call (.fn 92) [(.t 5)] [])⟩, ⟨(some 2), none, (.mov (.t 6))⟩] [2])
      .ret))
def cp71 : CP := { n := 7, kp := [[0], [2]] }
theorem s71 : ∀ vs r, g_abs vs = some r → Says Try.prog 71 vs r := by
  intro vs r h
  unfold g_abs at h
  split at h
  · rename_i c
    cases h
    refine says_raw1 fun b hb => ?_
    have hlt : b < 2 ^ 64 := hb.lt
    rw [fabs_fv hb]
    refine spec_of (tab := tabOf [(92, g_f64from), (93, g_f64bits)]) (cp := cp71) (ic := ic71) (rvl := [(.t 2)]) hm (tabOk_cons s92 (tabOk_cons s93 tabOk_nil)) Try.func71 rfl rfl rfl (by kernel_rfl) rfl (Nat.le_of_ble_eq_true rfl) ?_
    show eA _ _ _ _
    unfold ic71
    simp only [
      if_pos hlt, eA_seq, eA_reg, eA_ret, eA_skip, eA_cond, eA_block, eA_exit, eCc_true, eCc_false, Kq_normal, Kq_ret, Kq_exit, Kb_normal, Kb_exit, Kb_ret, Kreg_eq, eI_nil,
            bindSt_some, bindSt_none, bindSt_ite, eR_eq, eGI_tt, eGI_ff, eGI_tf, eGI_ft, eop, vop, ev_t, ev_c, ev_f, Option.map, put_some, put_none, set_eq, setH_eq, get_eq, hp_eq,
            keep_cons, keep_nil, lk_cons, lk_nil, startSt, envOf, reduceIte, Nat.reduceEqDiff, Nat.reduceAdd, Nat.zero_add, Nat.add_zero, Nat.reduceMul, Nat.reduceLT,
            Nat.reduceLeDiff, bop, uop, intop, fltop, convop, true_or, or_true, Bool.false_eq_true, ret_ok, ret_normal, outV, rvV, rvs, ex_some, pureV, pureX, pureX.pure1', pure1,
            Bool.true_and, Bool.false_and, Bool.and_true, Bool.and_false, Option.isNone_none, AV.cells, AV.one, storable, laid, refless, refless1, List.all_cons, List.all_nil,
            List.length_cons, List.length_nil, List.getElem?_cons_zero, List.getElem?_cons_succ, List.set_cons_zero, List.set_cons_succ, List.set_nil, List.map_cons, List.map_nil,
            vload, loadC, storeC, vnil, vfaddr, vextract, callTo, List.mapM_cons, List.mapM_nil, Option.pure_def, Option.bind_eq_bind, Option.bind_some, tabOf_cons, flatT, flatE,
            flatC, and_self, and_true, true_and, implies_true, forall_const, not_true_eq_false, not_false_eq_true, false_implies, List.take_succ_cons, List.drop_succ_cons,
            List.take_zero, List.drop_zero, Bool.not_true, Bool.not_false, beq_self_eq_true, decide_true, decide_false, eq_self, Int.reduceEq, Int.reduceLE, Int.reduceLT,
            Bool.not_not, Bool.true_or, Bool.or_true, Bool.false_or, Bool.or_false, if_true, if_false, List.getElem?_nil, e_mov, g_mov, e_bin, g_bin, e_call, g_call, g_f64bits,
            g_f64from]
  · cases h
def v_spec_l01AngleWide_0 (x0 : Nat) (x1 : Nat) : Nat := (fmul .f64 (if (flt .f64 (fabs x1) (fabs x0)) = true then (fdiv .f64 (fabs x1) (fabs x0)) else (fdiv .f64 (fabs x0) (fabs
      x1))) (if (flt .f64 (fabs x1) (fabs x0)) = true then (fdiv .f64 (fabs x1) (fabs x0)) else (fdiv .f64 (fabs x0) (fabs x1))))
def v_spec_l01AngleWide_1 (x0 : Nat) (x1 : Nat) : Nat := (fdiv .f64 (if (flt .f64 (fabs x1) (fabs x0)) = true then (fdiv .f64 (fabs x1) (fabs x0)) else (fdiv .f64 (fabs x0) (fabs
      x1))) (fadd .f64 4607182418800017408 (m_math_Sqrt (fadd .f64 4607182418800017408 (v_spec_l01AngleWide_0 x0 x1)))))
def v_spec_l01AngleWide_2 (x0 : Nat) (x1 : Nat) : Nat := (fdiv .f64 (v_spec_l01AngleWide_1 x0 x1) (fadd .f64 4607182418800017408 (m_math_Sqrt (fadd .f64 4607182418800017408 (fmul
      .f64 (v_spec_l01AngleWide_1 x0 x1) (v_spec_l01AngleWide_1 x0 x1))))))
def v_spec_l01AngleWide_3 (x0 : Nat) (x1 : Nat) : Nat := (fdiv .f64 (v_spec_l01AngleWide_2 x0 x1) (fadd .f64 4607182418800017408 (m_math_Sqrt (fadd .f64 4607182418800017408 (fmul
      .f64 (v_spec_l01AngleWide_2 x0 x1) (v_spec_l01AngleWide_2 x0 x1))))))
def v_spec_l01AngleWide_4 (x0 : Nat) (x1 : Nat) : Nat := (fmul .f64 (fmul .f64 (v_spec_l01AngleWide_3 x0 x1) (v_spec_l01AngleWide_3 x0 x1)) (fsub .f64 (fdiv .f64 4607182418800017408
      (ofInt .f64 15)) (fmul .f64 (fmul .f64 (v_spec_l01AngleWide_3 x0 x1) (v_spec_l01AngleWide_3 x0 x1)) 0)))
def v_spec_l01AngleWide_5 (x0 : Nat) (x1 : Nat) : Nat := (fmul .f64 (fmul .f64 (v_spec_l01AngleWide_3 x0 x1) (v_spec_l01AngleWide_3 x0 x1)) (fsub .f64 (fdiv .f64 4607182418800017408
      (ofInt .f64 13)) (v_spec_l01AngleWide_4 x0 x1)))
def v_spec_l01AngleWide_6 (x0 : Nat) (x1 : Nat) : Nat := (fmul .f64 (fmul .f64 (v_spec_l01AngleWide_3 x0 x1) (v_spec_l01AngleWide_3 x0 x1)) (fsub .f64 (fdiv .f64 4607182418800017408
      (ofInt .f64 11)) (v_spec_l01AngleWide_5 x0 x1)))
def v_spec_l01AngleWide_7 (x0 : Nat) (x1 : Nat) : Nat := (fmul .f64 (fmul .f64 (v_spec_l01AngleWide_3 x0 x1) (v_spec_l01AngleWide_3 x0 x1)) (fsub .f64 (fdiv .f64 4607182418800017408
      (ofInt .f64 9)) (v_spec_l01AngleWide_6 x0 x1)))
def v_spec_l01AngleWide_8 (x0 : Nat) (x1 : Nat) : Nat := (fmul .f64 (fmul .f64 (v_spec_l01AngleWide_3 x0 x1) (v_spec_l01AngleWide_3 x0 x1)) (fsub .f64 (fdiv .f64 4607182418800017408
      (ofInt .f64 7)) (v_spec_l01AngleWide_7 x0 x1)))
def v_spec_l01AngleWide_9 (x0 : Nat) (x1 : Nat) : Nat := (fmul .f64 (fmul .f64 (v_spec_l01AngleWide_3 x0 x1) (v_spec_l01AngleWide_3 x0 x1)) (fsub .f64 (fdiv .f64 4607182418800017408
      (ofInt .f64 5)) (v_spec_l01AngleWide_8 x0 x1)))
def v_spec_l01AngleWide_10 (x0 : Nat) (x1 : Nat) : Nat := (fmul .f64 (fmul .f64 (v_spec_l01AngleWide_3 x0 x1) (v_spec_l01AngleWide_3 x0 x1)) (fsub .f64 (fdiv .f64
      4607182418800017408 (ofInt .f64 3)) (v_spec_l01AngleWide_9 x0 x1)))
def v_spec_l01AngleWide_11 (x0 : Nat) (x1 : Nat) : Nat := (fmul .f64 4620693217682128896 (fmul .f64 (v_spec_l01AngleWide_3 x0 x1) (fsub .f64 (fdiv .f64 4607182418800017408 (ofInt
      .f64 1)) (v_spec_l01AngleWide_10 x0 x1))))
def v_spec_l01AngleWide_12 (x0 : Nat) (x1 : Nat) : Nat := (if (flt .f64 (fabs x1) (fabs x0)) = true then (fsub .f64 4598175219545276416 (fdiv .f64 (v_spec_l01AngleWide_11 x0 x1)
      4618760256179416344)) else (fdiv .f64 (v_spec_l01AngleWide_11 x0 x1) 4618760256179416344))
def m_spec_l01AngleWide (x0 : Nat) (x1 : Nat) : Nat := (if (feq .f64 (fsub .f64 x0 x0) 0) = true then (if (feq .f64 (fsub .f64 x1 x1) 0) = true then (if (feq .f64 x1 0) = true then
      (if (feq .f64 x0 0) = true then 0 else (if (flt .f64 x0 0) = true then (fneg .f64 (if (flt .f64 x1 0) = true then (fsub .f64 4602678819172646912 (v_spec_l01AngleWide_12 x0
      x1)) else (v_spec_l01AngleWide_12 x0 x1))) else (if (flt .f64 x1 0) = true then (fsub .f64 4602678819172646912 (v_spec_l01AngleWide_12 x0 x1)) else (v_spec_l01AngleWide_12 x0
      x1)))) else (if (flt .f64 x0 0) = true then (fneg .f64 (if (flt .f64 x1 0) = true then (fsub .f64 4602678819172646912 (v_spec_l01AngleWide_12 x0 x1)) else
      (v_spec_l01AngleWide_12 x0 x1))) else (if (flt .f64 x1 0) = true then (fsub .f64 4602678819172646912 (v_spec_l01AngleWide_12 x0 x1)) else (v_spec_l01AngleWide_12 x0 x1))))
      else (m_math_NaN)) else (m_math_NaN))
def g_spec_l01AngleWide : List AV → Option AV
  | [.flt .f64 y0, .flt .f64 y1] => some (.flt .f64 (m_spec_l01AngleWide y0 y1))
  | _ => none
def ic62 : ICode := (.seq (.reg [⟨(some 4), none, (.mov (.c (.flt .f64 0)))⟩] [0, 1]) (.seq (.seq (.reg [⟨(some 14), none, (.mov (.t 0))⟩, ⟨(some 15), none, (.mov (.t 0))⟩, ⟨(some
      16), none, (.bin .sub false (.t 14) (.t 15))⟩, ⟨(some 17), none, (.bin .neq false (.t 16) (.c (.flt .f64 0)))⟩, ⟨(some 18), none, (.mov (.t 17))⟩, ⟨(some 19), (some (18,
      false)), (.mov (.t 1))⟩, ⟨(some 20), (some (18, false)), (.mov (.t 1))⟩, ⟨(some 21), (some (18, false)), (.bin .sub false (.t 19) (.t 20))⟩, ⟨(some 22), (some (18, false)),
      (.bin .neq false (.t 21) (.c (.flt .f64 0)))⟩, ⟨(some 23), none, (.pick (.t 18) (.c (.bool true)) (.t 22))⟩] [0, 1, 23]) (.cond (.t 23) (.seq (.reg [⟨(some 24), none, (.call
      (.fn 73) [] [])⟩, ⟨(some 4), none, (.mov (.t 24))⟩] [4]) .ret) .skip)) (.seq (.seq (.reg [⟨(some 25), none, (.mov (.t 1))⟩, ⟨(some 26), none, (.bin .eql false (.t 25) (.c
      (.flt .f64 0)))⟩, ⟨(some 27), none, (.mov (.t 26))⟩, ⟨(some 28), (some (27, true)), (.mov (.t 0))⟩, ⟨(some 29), (some (27, true)), (.bin .eql false (.t 28) (.c (.flt .f64
      0)))⟩, ⟨(some 30), none, (.pick (.t 27) (.t 29) (.c (.bool false)))⟩] [0, 1, 30]) (.cond (.t 30) (.seq (.reg [⟨(some 4), none, (.mov (.c (.flt .f64 0)))⟩] [4]) .ret) .skip))
      (.seq (.reg [⟨(some 31), none, (.mov (.t 0))⟩, ⟨(some 32), none, (.call (.fn 71) [(.t 31)] [])⟩, ⟨(some 5), none, (.mov (.t 32))⟩] [0, 1, 5]) (.seq (.reg [⟨(some 33), none,
      (.mov (.t 1))⟩, ⟨(some 34), none, (.call (.fn 71) [(.t 33)] [])⟩, ⟨(some 6), none, (.mov (.t 34))⟩] [0, 1, 5, 6]) (.seq (.reg [⟨(some 35), none, (.mov (.t 5))⟩, ⟨(some 36),
      none, (.mov (.t 6))⟩, ⟨(some 37), none, (.bin .gtr false (.t 35) (.t 36))⟩, ⟨(some 7), none, (.mov (.t 37))⟩] [0, 1, 5, 6, 7]) (.seq (.reg [⟨(some 8), none, (.mov (.c (.flt
      .f64 0)))⟩] [0, 1, 5, 6, 7]) (.seq (.seq (.reg [⟨(some 38), none, (.mov (.t 7))⟩] [0, 1, 5, 6, 7, 38]) (.cond (.t 38) (.reg [⟨(some 39), none, (.mov (.t 6))⟩, ⟨(some 40),
      none, (.mov (.t 5))⟩, ⟨(some 41), none, (.bin .quo false (.t 39) (.t 40))⟩, ⟨(some 8), none, (.mov (.t 41))⟩] [0, 1, 7, 8]) (.reg [⟨(some 42), none, (.mov (.t 5))⟩, ⟨(some
      43), none, (.mov (.t 6))⟩, ⟨(some 44), none, (.bin .quo false (.t 42) (.t 43))⟩, ⟨(some 8), none, (.mov (.t 44))⟩] [0, 1, 7, 8]))) (.seq (.seq (.reg [⟨(some 9), none, (.mov
      (.c (.int .i64 0)))⟩] [0, 1, 7, 8, 9]) (.block 0 (.loop (.seq (.seq (.reg [⟨(some 45), none, (.mov (.t 9))⟩, ⟨(some 46), none, (.bin .lss false (.t 45) (.c (.int .i64 3)))⟩]
      [0, 1, 7, 8, 9, 46]) (.cond (.t 46) .skip (.exit 0))) (.seq (.block 1 (.reg [⟨(some 49), none, (.mov (.t 8))⟩, ⟨(some 50), none, (.mov (.t 8))⟩, ⟨(some 51), none, (.mov (.t
      8))⟩, ⟨(some 52), none, (.bin .mul false (.t 50) (.t 51))⟩, ⟨(some 53), none, (.bin .add false (.c (.flt .f64 4607182418800017408)) (.t 52))⟩, ⟨(some 54), none, (.call (.fn
      53) [(.t 53)] [])⟩, ⟨(some 55), none, (.bin .add false (.c (.flt .f64 4607182418800017408)) (.t 54))⟩, ⟨(some 56), none, (.bin .quo false (.t 49) (.t 55))⟩, ⟨(some 8), none,
      (.mov (.t 56))⟩] [0, 1, 7, 8, 9])) (.reg [⟨(some 47), none, (.mov (.t 9))⟩, ⟨(some 48), none, (.bin .add false (.t 47) (.c (.int .i64 1)))⟩, ⟨(some 9), none, (.mov (.t 48))⟩]
      [0, 1, 7, 8, 9])))))) (.seq (.reg [⟨(some 57), none, (.mov (.t 8))⟩, ⟨(some 58), none, (.mov (.t 8))⟩, ⟨(some 59), none, (.bin .mul false (.t 57) (.t 58))⟩, ⟨(some 10), none,
      (.mov (.t 59))⟩] [0, 1, 7, 8, 10]) (.seq (.reg [⟨(some 11), none, (.mov (.c (.flt .f64 0)))⟩] [0, 1, 7, 8, 10, 11]) (.seq (.seq (.reg [⟨(some 12), none, (.mov (.c (.int .i64
      15)))⟩] [0, 1, 7, 8, 10, 11, 12]) (.block 2 (.loop (.seq (.seq (.reg [⟨(some 60), none, (.mov (.t 12))⟩, ⟨(some 61), none, (.bin .geq false (.t 60) (.c (.int .i64 1)))⟩] [0,
      1, 7, 8, 10, 11, 12, 61]) (.cond (.t 61) .skip (.exit 2))) (.seq (.block 3 (.reg [⟨(some 64), none, (.mov (.t 12))⟩, ⟨(some 65), none, (.conv (.flt .f64) (.t 64))⟩, ⟨(some
      66), none, (.bin .quo false (.c (.flt .f64 4607182418800017408)) (.t 65))⟩, ⟨(some 67), none, (.mov (.t 10))⟩, ⟨(some 68), none, (.mov (.t 11))⟩, ⟨(some 69), none, (.bin .mul
      false (.t 67) (.t 68))⟩, ⟨(some 70), none, (.bin .sub false (.t 66) (.t 69))⟩, ⟨(some 11), none, (.mov (.t 70))⟩] [0, 1, 7, 8, 10, 11, 12])) (.reg [⟨(some 62), none, (.mov (.t
      12))⟩, ⟨(some 63), none, (.bin .sub false (.t 62) (.c (.int .i64 2)))⟩, ⟨(some 12), none, (.mov (.t 63))⟩] [0, 1, 7, 8, 10, 11, 12])))))) (.seq (.reg [⟨(some 71), none, (.mov
      (.t 8))⟩, ⟨(some 72), none, (.mov (.t 11))⟩, ⟨(some 73), none, (.bin .mul false (.t 71) (.t 72))⟩, ⟨(some 74), none, (.bin .mul false (.c (.flt .f64 4620693217682128896)) (.t
      73))⟩, ⟨(some 75), none, (.bin .quo false (.t 74) (.c (.flt .f64 4618760256179416344)))⟩, ⟨(some 13), none, (.mov (.t 75))⟩] [0, 1, 7, 13]) (.seq (.seq (.reg [⟨(some 76),
      none, (.mov (.t 7))⟩] [0, 1, 13, 76]) (.cond (.t 76) (.reg [⟨(some 77), none, (.mov (.t 13))⟩, ⟨(some 78), none, (.bin .sub false (.c (.flt .f64 4598175219545276416)) (.t
      77))⟩, ⟨(some 13), none, (.mov (.t 78))⟩] [0, 1, 13]) .skip)) (.seq (.seq (.reg [⟨(some 79), none, (.mov (.t 1))⟩, ⟨(some 80), none, (.bin .lss false (.t 79) (.c (.flt .f64
      0)))⟩] [0, 13, 80]) (.cond (.t 80) (.reg [⟨(some 81), none, (.mov (.t 13))⟩, ⟨(some 82), none, (.bin .sub false (.c (.flt .f64 4602678819172646912)) (.t 81))⟩, ⟨(some 13),
      none, (.mov (.t 82))⟩] [0, 13]) .skip)) (.seq (.seq (.reg [⟨(some 83), none, (.mov (.t 0))⟩, ⟨(some 84), none, (.bin .lss false (.t 83) (.c (.flt .f64 0)))⟩] [13, 84]) (.cond
      (.t 84) (.seq (.reg [⟨(some 85), none, (.mov (.t 13))⟩, ⟨(some 86), none, (.un .neg (.t 85))⟩, ⟨(some 4), none, (.mov (.t 86))⟩] [4]) .ret) .skip)) (.seq (.reg [⟨(some 87),
      none, (.mov (.t 13))⟩, ⟨(some 4), none, (.mov (.t 87))⟩] [4]) .ret)))))))))))))))))
def cp62 : CP := { n := 88, kp := [[0, 1], [0, 1, 23], [4], [0, 1, 30], [4], [0, 1, 5], [0, 1, 5, 6], [0, 1, 5, 6, 7], [0, 1, 5, 6, 7], [0, 1, 5, 6, 7, 38], [0, 1, 7, 8], [0, 1, 7,
      8], [0, 1, 7, 8, 9], [0, 1, 7, 8, 9, 46], [0, 1, 7, 8, 9], [0, 1, 7, 8, 9], [0, 1, 7, 8, 10], [0, 1, 7, 8, 10, 11], [0, 1, 7, 8, 10, 11, 12], [0, 1, 7, 8, 10, 11, 12, 61], [0,
      1, 7, 8, 10, 11, 12], [0, 1, 7, 8, 10, 11, 12], [0, 1, 7, 13], [0, 1, 13, 76], [0, 1, 13], [0, 13, 80], [0, 13], [13, 84], [4], [4]] }
theorem fc62_0 : IntKind.wrap .i64 (-1) = (-1) := by decide
theorem fc62_1 : IntKind.wrap .i64 1 = 1 := by decide
theorem fc62_2 : IntKind.wrap .i64 11 = 11 := by decide
theorem fc62_3 : IntKind.wrap .i64 13 = 13 := by decide
theorem fc62_4 : IntKind.wrap .i64 2 = 2 := by decide
theorem fc62_5 : IntKind.wrap .i64 3 = 3 := by decide
theorem fc62_6 : IntKind.wrap .i64 5 = 5 := by decide
theorem fc62_7 : IntKind.wrap .i64 7 = 7 := by decide
theorem fc62_8 : IntKind.wrap .i64 9 = 9 := by decide
theorem s62 : ∀ vs r, g_spec_l01AngleWide vs = some r → Says Try.prog 62 vs r := by
  intro vs r h
  unfold g_spec_l01AngleWide at h
  split at h
  · rename_i y0 y1
    cases h
    refine spec_of (tab := tabOf [(53, g_math_Sqrt), (71, g_abs), (73, g_math_NaN)]) (cp := cp62) (ic := ic62) (rvl := [(.t 4)]) hm (tabOk_cons s53 (tabOk_cons s71 (tabOk_cons s73 tabOk_nil))) Try.func62 rfl rfl rfl (by kernel_rfl) rfl (Nat.le_of_ble_eq_true rfl) ?_
    show eA _ _ _ _
    unfold ic62
    simp only [
        eA_seq, eA_reg, eA_ret, eA_skip, eA_cond, eA_block, eA_exit, eCc_true, eCc_false, Kq_normal, Kq_ret, Kq_exit, Kb_normal, Kb_exit, Kb_ret, Kreg_eq, eI_nil, bindSt_some,
              bindSt_none, bindSt_ite, eR_eq, eGI_tt, eGI_ff, eGI_tf, eGI_ft, eop, vop, ev_t, ev_c, ev_f, Option.map, put_some, put_none, set_eq, setH_eq, get_eq, hp_eq, keep_cons,
              keep_nil, lk_cons, lk_nil, startSt, envOf, reduceIte, Nat.reduceEqDiff, Nat.reduceAdd, Nat.zero_add, Nat.add_zero, Nat.reduceMul, Nat.reduceLT, Nat.reduceLeDiff, bop,
              uop, intop, fltop, convop, true_or, or_true, Bool.false_eq_true, ret_ok, ret_normal, outV, rvV, rvs, ex_some, pureV, pureX, pureX.pure1', pure1, Bool.true_and,
              Bool.false_and, Bool.and_true, Bool.and_false, Option.isNone_none, AV.cells, AV.one, storable, laid, refless, refless1, List.all_cons, List.all_nil, List.length_cons,
              List.length_nil, List.getElem?_cons_zero, List.getElem?_cons_succ, List.set_cons_zero, List.set_cons_succ, List.set_nil, List.map_cons, List.map_nil, vload, loadC,
              storeC, vnil, vfaddr, vextract, callTo, List.mapM_cons, List.mapM_nil, Option.pure_def, Option.bind_eq_bind, Option.bind_some, tabOf_cons, flatT, flatE, flatC,
              and_self, and_true, true_and, implies_true, forall_const, not_true_eq_false, not_false_eq_true, false_implies, List.take_succ_cons, List.drop_succ_cons,
              List.take_zero, List.drop_zero, Bool.not_true, Bool.not_false, beq_self_eq_true, decide_true, decide_false, eq_self, Int.reduceEq, Int.reduceLE, Int.reduceLT,
              Bool.not_not, Bool.true_or, Bool.or_true, Bool.false_or, Bool.or_false, if_true, if_false, List.getElem?_nil, Kl_normal, Kl_exit, Kl_ret, fc62_0, fc62_1, fc62_2,
              fc62_3, fc62_4, fc62_5, fc62_6, fc62_7, fc62_8, cast_lit, toNat_lit, Int.reduceAdd, Int.reduceSub, Int.reduceMul, Int.reduceNeg, Int.reducePow, Nat.reducePow,
              Int.reduceToNat, Nat.reduceSub, Nat.mul_one, Int.toNat_zero, prod_eta, List.nil_append, List.cons_append, List.append_nil, Int.le_refl, Nat.le_refl, true_implies,
              take_all, vconv, vmm, vidxA, viaddrA, iaddr_sl, iaddr_lsl, getE, vfield, vlen, fillC, fillE, List.replicate, elemsOf, List.length_map, f2iK_eq, bits_i64, bits_i32,
              bits_u64, bits_u32, bits_u8, e_mov, g_mov, e_pick, g_pick, e_bin, g_bin, e_un, g_un, e_conv, g_conv, e_call, g_call, g_math_Sqrt, g_abs, g_math_NaN, dF32_map,
              dF64_map, dI64_map, dU8_map, dBool_map, dStr_map, decL, dF32, dF64, dI64, dU8, dBool, dStr, ↓b_pick, ePk_true, ePk_false]
    repeat' (first
      | ((first | (refine eGI_of (fun h => ?_) (fun h => ?_)) | (refine eCc_of (fun h => ?_) (fun h => ?_)) | (refine ePk_of (fun h => ?_) (fun h => ?_)) | (have h := True.intro; refine KW_refl ?_) | (have h := True.intro; refine eA_loop ?_)) <;> (try simp only [Bool.not_eq_true', Bool.not_eq_false'] at h) <;> simp only [h,
        eA_seq, eA_reg, eA_ret, eA_skip, eA_cond, eA_block, eA_exit, eCc_true, eCc_false, Kq_normal, Kq_ret, Kq_exit, Kb_normal, Kb_exit, Kb_ret, Kreg_eq, eI_nil, bindSt_some,
              bindSt_none, bindSt_ite, eR_eq, eGI_tt, eGI_ff, eGI_tf, eGI_ft, eop, vop, ev_t, ev_c, ev_f, Option.map, put_some, put_none, set_eq, setH_eq, get_eq, hp_eq, keep_cons,
              keep_nil, lk_cons, lk_nil, startSt, envOf, reduceIte, Nat.reduceEqDiff, Nat.reduceAdd, Nat.zero_add, Nat.add_zero, Nat.reduceMul, Nat.reduceLT, Nat.reduceLeDiff, bop,
              uop, intop, fltop, convop, true_or, or_true, Bool.false_eq_true, ret_ok, ret_normal, outV, rvV, rvs, ex_some, pureV, pureX, pureX.pure1', pure1, Bool.true_and,
              Bool.false_and, Bool.and_true, Bool.and_false, Option.isNone_none, AV.cells, AV.one, storable, laid, refless, refless1, List.all_cons, List.all_nil, List.length_cons,
              List.length_nil, List.getElem?_cons_zero, List.getElem?_cons_succ, List.set_cons_zero, List.set_cons_succ, List.set_nil, List.map_cons, List.map_nil, vload, loadC,
              storeC, vnil, vfaddr, vextract, callTo, List.mapM_cons, List.mapM_nil, Option.pure_def, Option.bind_eq_bind, Option.bind_some, tabOf_cons, flatT, flatE, flatC,
              and_self, and_true, true_and, implies_true, forall_const, not_true_eq_false, not_false_eq_true, false_implies, List.take_succ_cons, List.drop_succ_cons,
              List.take_zero, List.drop_zero, Bool.not_true, Bool.not_false, beq_self_eq_true, decide_true, decide_false, eq_self, Int.reduceEq, Int.reduceLE, Int.reduceLT,
              Bool.not_not, Bool.true_or, Bool.or_true, Bool.false_or, Bool.or_false, if_true, if_false, List.getElem?_nil, Kl_normal, Kl_exit, Kl_ret, fc62_0, fc62_1, fc62_2,
              fc62_3, fc62_4, fc62_5, fc62_6, fc62_7, fc62_8, cast_lit, toNat_lit, Int.reduceAdd, Int.reduceSub, Int.reduceMul, Int.reduceNeg, Int.reducePow, Nat.reducePow,
              Int.reduceToNat, Nat.reduceSub, Nat.mul_one, Int.toNat_zero, prod_eta, List.nil_append, List.cons_append, List.append_nil, Int.le_refl, Nat.le_refl, true_implies,
              take_all, vconv, vmm, vidxA, viaddrA, iaddr_sl, iaddr_lsl, getE, vfield, vlen, fillC, fillE, List.replicate, elemsOf, List.length_map, f2iK_eq, bits_i64, bits_i32,
              bits_u64, bits_u32, bits_u8, e_mov, g_mov, e_pick, g_pick, e_bin, g_bin, e_un, g_un, e_conv, g_conv, e_call, g_call, g_math_Sqrt, g_abs, g_math_NaN, dF32_map,
              dF64_map, dI64_map, dU8_map, dBool_map, dStr_map, decL, dF32, dF64, dI64, dU8, dBool, dStr, ↓b_pick, ePk_true, ePk_false]))
    all_goals (try simp only [*, m_spec_l01AngleWide, v_spec_l01AngleWide_0, v_spec_l01AngleWide_1, v_spec_l01AngleWide_2, v_spec_l01AngleWide_3, v_spec_l01AngleWide_4, v_spec_l01AngleWide_5, v_spec_l01AngleWide_6, v_spec_l01AngleWide_7, v_spec_l01AngleWide_8, v_spec_l01AngleWide_9, v_spec_l01AngleWide_10, v_spec_l01AngleWide_11, v_spec_l01AngleWide_12, Bool.and_true, Bool.true_and, Bool.and_false, Bool.false_and, Bool.or_true, Bool.true_or, Bool.or_false, Bool.false_or, Bool.not_true, Bool.not_false, Bool.false_eq_true, if_true, if_false, reduceIte, decide_true, decide_false])
    all_goals (try (simp_all; done))
  · cases h
def m_spec_l01Narrow (x0 : Nat) : Nat := (narrow x0)
def p_spec_l01Narrow (x0 : Nat) : Bool := (narrowOk x0)
def g_spec_l01Narrow : List AV → Option AV
  | [.flt .f64 y0] => if p_spec_l01Narrow y0 = true then some (.flt .f32 (m_spec_l01Narrow y0)) else none
  | _ => none
def ic61 : ICode := (.seq (.reg [⟨(some 2), none, (.mov (.c (.flt .f32 0)))⟩] [0]) (.seq (.reg [⟨(some 3), none, (.mov (.t 0))⟩, ⟨(some 4), none, (.conv (.flt .f32) (.t 3))⟩, ⟨(some
      2), none, (.mov (.t 4))⟩] [2]) .ret))
def cp61 : CP := { n := 5, kp := [[0], [2]] }
theorem fc61_0 : IntKind.wrap .i64 (-1) = (-1) := by decide
theorem fc61_1 : IntKind.wrap .i64 1 = 1 := by decide
theorem fc61_2 : IntKind.wrap .i64 11 = 11 := by decide
theorem fc61_3 : IntKind.wrap .i64 13 = 13 := by decide
theorem fc61_4 : IntKind.wrap .i64 2 = 2 := by decide
theorem fc61_5 : IntKind.wrap .i64 3 = 3 := by decide
theorem fc61_6 : IntKind.wrap .i64 5 = 5 := by decide
theorem fc61_7 : IntKind.wrap .i64 7 = 7 := by decide
theorem fc61_8 : IntKind.wrap .i64 9 = 9 := by decide
theorem s61 : ∀ vs r, g_spec_l01Narrow vs = some r → Says Try.prog 61 vs r := by
  intro vs r h
  unfold g_spec_l01Narrow at h
  split at h
  · rename_i y0
    split at h
    · rename_i hp
      cases h
      refine spec_of (tab := tabOf []) (cp := cp61) (ic := ic61) (rvl := [(.t 2)]) hm tabOk_nil Try.func61 rfl rfl rfl (by kernel_rfl) rfl (Nat.le_of_ble_eq_true rfl) ?_
      show eA _ _ _ _
      unfold ic61
      simp only [p_spec_l01Narrow, Bool.and_eq_true, Bool.or_eq_true, decide_eq_true_eq, Bool.not_eq_true', decide_eq_false_iff_not] at hp
      simp only [
          hp, eA_seq, eA_reg, eA_ret, eA_skip, eA_cond, eA_block, eA_exit, eCc_true, eCc_false, Kq_normal, Kq_ret, Kq_exit, Kb_normal, Kb_exit, Kb_ret, Kreg_eq, eI_nil, bindSt_some,
                bindSt_none, bindSt_ite, eR_eq, eGI_tt, eGI_ff, eGI_tf, eGI_ft, eop, vop, ev_t, ev_c, ev_f, Option.map, put_some, put_none, set_eq, setH_eq, get_eq, hp_eq,
                keep_cons, keep_nil, lk_cons, lk_nil, startSt, envOf, reduceIte, Nat.reduceEqDiff, Nat.reduceAdd, Nat.zero_add, Nat.add_zero, Nat.reduceMul, Nat.reduceLT,
                Nat.reduceLeDiff, bop, uop, intop, fltop, convop, true_or, or_true, Bool.false_eq_true, ret_ok, ret_normal, outV, rvV, rvs, ex_some, pureV, pureX, pureX.pure1',
                pure1, Bool.true_and, Bool.false_and, Bool.and_true, Bool.and_false, Option.isNone_none, AV.cells, AV.one, storable, laid, refless, refless1, List.all_cons,
                List.all_nil, List.length_cons, List.length_nil, List.getElem?_cons_zero, List.getElem?_cons_succ, List.set_cons_zero, List.set_cons_succ, List.set_nil,
                List.map_cons, List.map_nil, vload, loadC, storeC, vnil, vfaddr, vextract, callTo, List.mapM_cons, List.mapM_nil, Option.pure_def, Option.bind_eq_bind,
                Option.bind_some, tabOf_cons, flatT, flatE, flatC, and_self, and_true, true_and, implies_true, forall_const, not_true_eq_false, not_false_eq_true, false_implies,
                List.take_succ_cons, List.drop_succ_cons, List.take_zero, List.drop_zero, Bool.not_true, Bool.not_false, beq_self_eq_true, decide_true, decide_false, eq_self,
                Int.reduceEq, Int.reduceLE, Int.reduceLT, Bool.not_not, Bool.true_or, Bool.or_true, Bool.false_or, Bool.or_false, if_true, if_false, List.getElem?_nil, Kl_normal,
                Kl_exit, Kl_ret, fc61_0, fc61_1, fc61_2, fc61_3, fc61_4, fc61_5, fc61_6, fc61_7, fc61_8, cast_lit, toNat_lit, Int.reduceAdd, Int.reduceSub, Int.reduceMul,
                Int.reduceNeg, Int.reducePow, Nat.reducePow, Int.reduceToNat, Nat.reduceSub, Nat.mul_one, Int.toNat_zero, prod_eta, List.nil_append, List.cons_append,
                List.append_nil, Int.le_refl, Nat.le_refl, true_implies, take_all, vconv, vmm, vidxA, viaddrA, iaddr_sl, iaddr_lsl, getE, vfield, vlen, fillC, fillE, List.replicate,
                elemsOf, List.length_map, f2iK_eq, bits_i64, bits_i32, bits_u64, bits_u32, bits_u8, e_mov, g_mov, e_conv, g_conv, dF32_map, dF64_map, dI64_map, dU8_map, dBool_map,
                dStr_map, decL, dF32, dF64, dI64, dU8, dBool, dStr]
      repeat' (first
        | ((first | (refine eGI_of (fun h => ?_) (fun h => ?_)) | (refine eCc_of (fun h => ?_) (fun h => ?_))) <;> (try simp only [Bool.not_eq_true', Bool.not_eq_false'] at h) <;> (try simp only [h, reduceCtorEq, Bool.not_eq_true', decide_eq_false_iff_not, Bool.not_true, Bool.not_false, Bool.false_or, Bool.true_or, Bool.true_and, Bool.false_and, Bool.and_eq_true, Bool.or_eq_true, if_true, if_false, reduceIte, Bool.false_eq_true, and_true, true_and, false_or, or_false, decide_eq_true_eq, not_false_eq_true, not_true_eq_false] at hp) <;> (try (have h2 := h; simp only [decide_eq_true_eq, decide_eq_false_iff_not] at h2; (first | (replace h2 := eq_false h2) | (replace h2 := eq_true h2)); simp only [h2, if_true, if_false, false_or, true_or, or_true, or_false, and_true, true_and, not_false_eq_true, not_true_eq_false] at hp)) <;> simp only [h,
          hp, eA_seq, eA_reg, eA_ret, eA_skip, eA_cond, eA_block, eA_exit, eCc_true, eCc_false, Kq_normal, Kq_ret, Kq_exit, Kb_normal, Kb_exit, Kb_ret, Kreg_eq, eI_nil, bindSt_some,
                bindSt_none, bindSt_ite, eR_eq, eGI_tt, eGI_ff, eGI_tf, eGI_ft, eop, vop, ev_t, ev_c, ev_f, Option.map, put_some, put_none, set_eq, setH_eq, get_eq, hp_eq,
                keep_cons, keep_nil, lk_cons, lk_nil, startSt, envOf, reduceIte, Nat.reduceEqDiff, Nat.reduceAdd, Nat.zero_add, Nat.add_zero, Nat.reduceMul, Nat.reduceLT,
                Nat.reduceLeDiff, bop, uop, intop, fltop, convop, true_or, or_true, Bool.false_eq_true, ret_ok, ret_normal, outV, rvV, rvs, ex_some, pureV, pureX, pureX.pure1',
                pure1, Bool.true_and, Bool.false_and, Bool.and_true, Bool.and_false, Option.isNone_none, AV.cells, AV.one, storable, laid, refless, refless1, List.all_cons,
                List.all_nil, List.length_cons, List.length_nil, List.getElem?_cons_zero, List.getElem?_cons_succ, List.set_cons_zero, List.set_cons_succ, List.set_nil,
                List.map_cons, List.map_nil, vload, loadC, storeC, vnil, vfaddr, vextract, callTo, List.mapM_cons, List.mapM_nil, Option.pure_def, Option.bind_eq_bind,
                Option.bind_some, tabOf_cons, flatT, flatE, flatC, and_self, and_true, true_and, implies_true, forall_const, not_true_eq_false, not_false_eq_true, false_implies,
                List.take_succ_cons, List.drop_succ_cons, List.take_zero, List.drop_zero, Bool.not_true, Bool.not_false, beq_self_eq_true, decide_true, decide_false, eq_self,
                Int.reduceEq, Int.reduceLE, Int.reduceLT, Bool.not_not, Bool.true_or, Bool.or_true, Bool.false_or, Bool.or_false, if_true, if_false, List.getElem?_nil, Kl_normal,
                Kl_exit, Kl_ret, fc61_0, fc61_1, fc61_2, fc61_3, fc61_4, fc61_5, fc61_6, fc61_7, fc61_8, cast_lit, toNat_lit, Int.reduceAdd, Int.reduceSub, Int.reduceMul,
                Int.reduceNeg, Int.reducePow, Nat.reducePow, Int.reduceToNat, Nat.reduceSub, Nat.mul_one, Int.toNat_zero, prod_eta, List.nil_append, List.cons_append,
                List.append_nil, Int.le_refl, Nat.le_refl, true_implies, take_all, vconv, vmm, vidxA, viaddrA, iaddr_sl, iaddr_lsl, getE, vfield, vlen, fillC, fillE, List.replicate,
                elemsOf, List.length_map, f2iK_eq, bits_i64, bits_i32, bits_u64, bits_u32, bits_u8, e_mov, g_mov, e_conv, g_conv, dF32_map, dF64_map, dI64_map, dU8_map, dBool_map,
                dStr_map, decL, dF32, dF64, dI64, dU8, dBool, dStr]))
      all_goals (try simp only [*, m_spec_l01Narrow, Bool.and_true, Bool.true_and, Bool.and_false, Bool.false_and, Bool.or_true, Bool.true_or, Bool.or_false, Bool.false_or, Bool.not_true, Bool.not_false, Bool.false_eq_true, if_true, if_false, reduceIte, decide_true, decide_false])
      all_goals (try (simp_all; done))
    · cases h
  · cases h
def v_spec_BendOf_0 (x0 : Nat) (x1 : Nat) (x2 : Nat) : Nat := (fdiv .f64 (fsub .f64 (fadd .f64 (fmul .f64 (widen x0) (widen x0)) (fmul .f64 (widen x1) (widen x1))) (fmul .f64 (widen
      x2) (widen x2))) (fmul .f64 (fmul .f64 4611686018427387904 (widen x0)) (widen x1)))
def v_spec_BendOf_1 (x0 : Nat) (x1 : Nat) (x2 : Nat) : Nat := (fmul .f64 (m_math_Max 13830554455654793216 (m_math_Min 4607182418800017408 (v_spec_BendOf_0 x0 x1 x2))) (m_math_Max
      13830554455654793216 (m_math_Min 4607182418800017408 (v_spec_BendOf_0 x0 x1 x2))))
def v_spec_BendOf_2 (x0 : Nat) (x1 : Nat) (x2 : Nat) : Nat := (m_spec_l01AngleWide (m_math_Sqrt (fsub .f64 4607182418800017408 (v_spec_BendOf_1 x0 x1 x2))) (m_math_Max
      13830554455654793216 (m_math_Min 4607182418800017408 (v_spec_BendOf_0 x0 x1 x2))))
def m_spec_BendOf (x0 : Nat) (x1 : Nat) (x2 : Nat) : (Nat × Bool) := (if (m_spec_l04Length x0) = true then (if (m_spec_l04Length x1) = true then (if (m_spec_l01Finite x2) = true
      then (if (fle .f32 0 x2) = true then ((m_spec_l01Narrow (v_spec_BendOf_2 x0 x1 x2)), true) else (0, false)) else (0, false)) else (0, false)) else (0, false))
def p_spec_BendOf (x0 : Nat) (x1 : Nat) (x2 : Nat) : Bool := (!(m_spec_l04Length x0) || (!(m_spec_l04Length x1) || (!(m_spec_l01Finite x2) || (!(fle .f32 0 x2) || (p_spec_l01Narrow
      (v_spec_BendOf_2 x0 x1 x2))))))
def g_spec_BendOf : List AV → Option AV
  | [.flt .f32 y0, .flt .f32 y1, .flt .f32 y2] => if p_spec_BendOf y0 y1 y2 = true then some (AV.tup [(.flt .f32 (m_spec_BendOf y0 y1 y2).1),
      (.bool (m_spec_BendOf y0 y1 y2).2)]) else none
  | _ => none
def ic25 : ICode := (.seq (.reg [⟨(some 6), none, (.mov (.c (.flt .f32 0)))⟩, ⟨(some 7), none, (.mov (.c (.bool false)))⟩] [0, 1, 2]) (.seq (.seq (.reg [⟨(some 12), none, (.mov (.t
      0))⟩, ⟨(some 13), none, (.call (.fn 36) [(.t 12)] [])⟩, ⟨(some 14), none, (.un .not (.t 13))⟩, ⟨(some 15), none, (.mov (.t 14))⟩, ⟨(some 16), (some (15, false)), (.mov (.t
      1))⟩, ⟨(some 17), (some (15, false)), (.call (.fn 36) [(.t 16)] [])⟩, ⟨(some 18), (some (15, false)), (.un .not (.t 17))⟩, ⟨(some 19), none, (.pick (.t 15) (.c (.bool true))
      (.t 18))⟩, ⟨(some 20), none, (.mov (.t 19))⟩, ⟨(some 21), (some (20, false)), (.mov (.t 2))⟩, ⟨(some 22), (some (20, false)), (.call (.fn 58) [(.t 21)] [])⟩, ⟨(some 23), (some
      (20, false)), (.un .not (.t 22))⟩, ⟨(some 24), none, (.pick (.t 20) (.c (.bool true)) (.t 23))⟩, ⟨(some 25), none, (.mov (.t 24))⟩, ⟨(some 26), (some (25, false)), (.mov (.t
      2))⟩, ⟨(some 27), (some (25, false)), (.bin .geq false (.t 26) (.c (.flt .f32 0)))⟩, ⟨(some 28), (some (25, false)), (.un .not (.t 27))⟩, ⟨(some 29), none, (.pick (.t 25) (.c
      (.bool true)) (.t 28))⟩] [0, 1, 2, 29]) (.cond (.t 29) (.seq (.reg [⟨(some 6), none, (.mov (.c (.flt .f32 0)))⟩, ⟨(some 7), none, (.mov (.c (.bool false)))⟩] [6, 7]) .ret)
      .skip)) (.seq (.reg [⟨(some 30), none, (.mov (.t 0))⟩, ⟨(some 31), none, (.conv (.flt .f64) (.t 30))⟩, ⟨(some 8), none, (.mov (.t 31))⟩] [1, 2, 8]) (.seq (.reg [⟨(some 32),
      none, (.mov (.t 1))⟩, ⟨(some 33), none, (.conv (.flt .f64) (.t 32))⟩, ⟨(some 9), none, (.mov (.t 33))⟩] [2, 8, 9]) (.seq (.reg [⟨(some 34), none, (.mov (.t 2))⟩, ⟨(some 35),
      none, (.conv (.flt .f64) (.t 34))⟩, ⟨(some 10), none, (.mov (.t 35))⟩] [8, 9, 10]) (.seq (.reg [⟨(some 36), none, (.mov (.t 8))⟩, ⟨(some 37), none, (.mov (.t 8))⟩, ⟨(some 38),
      none, (.bin .mul false (.t 36) (.t 37))⟩, ⟨(some 39), none, (.mov (.t 9))⟩, ⟨(some 40), none, (.mov (.t 9))⟩, ⟨(some 41), none, (.bin .mul false (.t 39) (.t 40))⟩, ⟨(some 42),
      none, (.bin .add false (.t 38) (.t 41))⟩, ⟨(some 11), none, (.mov (.t 42))⟩] [8, 9, 10, 11]) (.seq (.reg [⟨(some 43), none, (.mov (.t 11))⟩, ⟨(some 44), none, (.mov (.t 10))⟩,
      ⟨(some 45), none, (.mov (.t 10))⟩, ⟨(some 46), none, (.bin .mul false (.t 44) (.t 45))⟩, ⟨(some 47), none, (.bin .sub false (.t 43) (.t 46))⟩, ⟨(some 48), none, (.mov (.t
      8))⟩, ⟨(some 49), none, (.bin .mul false (.c (.flt .f64 4611686018427387904)) (.t 48))⟩, ⟨(some 50), none, (.mov (.t 9))⟩, ⟨(some 51), none, (.bin .mul false (.t 49) (.t
      50))⟩, ⟨(some 52), none, (.bin .quo false (.t 47) (.t 51))⟩, ⟨(some 11), none, (.mov (.t 52))⟩] [11]) (.seq (.reg [⟨(some 53), none, (.mov (.t 11))⟩, ⟨(some 54), none, (.call
      (.fn 60) [(.c (.flt .f64 4607182418800017408)), (.t 53)] [])⟩, ⟨(some 55), none, (.call (.fn 59) [(.c (.flt .f64 13830554455654793216)), (.t 54)] [])⟩, ⟨(some 11), none, (.mov
      (.t 55))⟩] [11]) (.seq (.reg [⟨(some 56), none, (.mov (.t 11))⟩, ⟨(some 57), none, (.mov (.t 11))⟩, ⟨(some 58), none, (.bin .mul false (.t 56) (.t 57))⟩, ⟨(some 59), none,
      (.bin .sub false (.c (.flt .f64 4607182418800017408)) (.t 58))⟩, ⟨(some 60), none, (.call (.fn 53) [(.t 59)] [])⟩, ⟨(some 61), none, (.mov (.t 11))⟩, ⟨(some 62), none, (.call
      (.fn 62) [(.t 60), (.t 61)] [])⟩, ⟨(some 63), none, (.call (.fn 61) [(.t 62)] [])⟩, ⟨(some 6), none, (.mov (.t 63))⟩, ⟨(some 7), none, (.mov (.c (.bool true)))⟩] [6, 7])
      .ret)))))))))
def cp25 : CP := { n := 64, kp := [[0, 1, 2], [0, 1, 2, 29], [6, 7], [1, 2, 8], [2, 8, 9], [8, 9, 10], [8, 9, 10, 11], [11], [11], [6, 7]] }
theorem fc25_0 : IntKind.wrap .i64 (-1) = (-1) := by decide
theorem fc25_1 : IntKind.wrap .i64 1 = 1 := by decide
theorem fc25_2 : IntKind.wrap .i64 11 = 11 := by decide
theorem fc25_3 : IntKind.wrap .i64 13 = 13 := by decide
theorem fc25_4 : IntKind.wrap .i64 2 = 2 := by decide
theorem fc25_5 : IntKind.wrap .i64 3 = 3 := by decide
theorem fc25_6 : IntKind.wrap .i64 5 = 5 := by decide
theorem fc25_7 : IntKind.wrap .i64 7 = 7 := by decide
theorem fc25_8 : IntKind.wrap .i64 9 = 9 := by decide
theorem s25 : ∀ vs r, g_spec_BendOf vs = some r → Says Try.prog 25 vs r := by
  intro vs r h
  unfold g_spec_BendOf at h
  split at h
  · rename_i y0 y1 y2
    split at h
    · rename_i hp
      cases h
      refine spec_of (tab := tabOf [(36, g_spec_l04Length), (53, g_math_Sqrt), (58, g_spec_l01Finite), (59, g_math_Max), (60, g_math_Min), (61, g_spec_l01Narrow), (62, g_spec_l01AngleWide)]) (cp := cp25) (ic := ic25) (rvl := [(.t 6), (.t 7)]) hm (tabOk_cons s36 (tabOk_cons s53 (tabOk_cons s58 (tabOk_cons s59 (tabOk_cons s60 (tabOk_cons s61 (tabOk_cons s62 tabOk_nil))))))) Try.func25 rfl rfl rfl (by kernel_rfl) rfl (Nat.le_of_ble_eq_true rfl) ?_
      show eA _ _ _ _
      unfold ic25
      simp only [p_spec_BendOf, v_spec_BendOf_0, v_spec_BendOf_1, v_spec_BendOf_2, Bool.and_eq_true, Bool.or_eq_true, decide_eq_true_eq, Bool.not_eq_true', decide_eq_false_iff_not] at hp
      simp only [
          hp, eA_seq, eA_reg, eA_ret, eA_skip, eA_cond, eA_block, eA_exit, eCc_true, eCc_false, Kq_normal, Kq_ret, Kq_exit, Kb_normal, Kb_exit, Kb_ret, Kreg_eq, eI_nil, bindSt_some,
                bindSt_none, bindSt_ite, eR_eq, eGI_tt, eGI_ff, eGI_tf, eGI_ft, eop, vop, ev_t, ev_c, ev_f, Option.map, put_some, put_none, set_eq, setH_eq, get_eq, hp_eq,
                keep_cons, keep_nil, lk_cons, lk_nil, startSt, envOf, reduceIte, Nat.reduceEqDiff, Nat.reduceAdd, Nat.zero_add, Nat.add_zero, Nat.reduceMul, Nat.reduceLT,
                Nat.reduceLeDiff, bop, uop, intop, fltop, convop, true_or, or_true, Bool.false_eq_true, ret_ok, ret_normal, outV, rvV, rvs, ex_some, pureV, pureX, pureX.pure1',
                pure1, Bool.true_and, Bool.false_and, Bool.and_true, Bool.and_false, Option.isNone_none, AV.cells, AV.one, storable, laid, refless, refless1, List.all_cons,
                List.all_nil, List.length_cons, List.length_nil, List.getElem?_cons_zero, List.getElem?_cons_succ, List.set_cons_zero, List.set_cons_succ, List.set_nil,
                List.map_cons, List.map_nil, vload, loadC, storeC, vnil, vfaddr, vextract, callTo, List.mapM_cons, List.mapM_nil, Option.pure_def, Option.bind_eq_bind,
                Option.bind_some, tabOf_cons, flatT, flatE, flatC, and_self, and_true, true_and, implies_true, forall_const, not_true_eq_false, not_false_eq_true, false_implies,
                List.take_succ_cons, List.drop_succ_cons, List.take_zero, List.drop_zero, Bool.not_true, Bool.not_false, beq_self_eq_true, decide_true, decide_false, eq_self,
                Int.reduceEq, Int.reduceLE, Int.reduceLT, Bool.not_not, Bool.true_or, Bool.or_true, Bool.false_or, Bool.or_false, if_true, if_false, List.getElem?_nil, Kl_normal,
                Kl_exit, Kl_ret, fc25_0, fc25_1, fc25_2, fc25_3, fc25_4, fc25_5, fc25_6, fc25_7, fc25_8, cast_lit, toNat_lit, Int.reduceAdd, Int.reduceSub, Int.reduceMul,
                Int.reduceNeg, Int.reducePow, Nat.reducePow, Int.reduceToNat, Nat.reduceSub, Nat.mul_one, Int.toNat_zero, prod_eta, List.nil_append, List.cons_append,
                List.append_nil, Int.le_refl, Nat.le_refl, true_implies, take_all, vconv, vmm, vidxA, viaddrA, iaddr_sl, iaddr_lsl, getE, vfield, vlen, fillC, fillE, List.replicate,
                elemsOf, List.length_map, f2iK_eq, bits_i64, bits_i32, bits_u64, bits_u32, bits_u8, e_mov, g_mov, e_pick, g_pick, e_bin, g_bin, e_un, g_un, e_conv, g_conv, e_call,
                g_call, g_spec_l04Length, g_math_Sqrt, g_spec_l01Finite, g_math_Max, g_math_Min, g_spec_l01Narrow, g_spec_l01AngleWide, dF32_map, dF64_map, dI64_map, dU8_map,
                dBool_map, dStr_map, decL, dF32, dF64, dI64, dU8, dBool, dStr, ↓b_pick, ePk_true, ePk_false]
      repeat' (first
        | ((first | (refine eGI_of (fun h => ?_) (fun h => ?_)) | (refine eCc_of (fun h => ?_) (fun h => ?_)) | (refine ePk_of (fun h => ?_) (fun h => ?_))) <;> (try simp only [Bool.not_eq_true', Bool.not_eq_false'] at h) <;> (try simp only [h, reduceCtorEq, Bool.not_eq_true', decide_eq_false_iff_not, Bool.not_true, Bool.not_false, Bool.false_or, Bool.true_or, Bool.true_and, Bool.false_and, Bool.and_eq_true, Bool.or_eq_true, if_true, if_false, reduceIte, Bool.false_eq_true, and_true, true_and, false_or, or_false, decide_eq_true_eq, not_false_eq_true, not_true_eq_false] at hp) <;> (try (have h2 := h; simp only [decide_eq_true_eq, decide_eq_false_iff_not] at h2; (first | (replace h2 := eq_false h2) | (replace h2 := eq_true h2)); simp only [h2, if_true, if_false, false_or, true_or, or_true, or_false, and_true, true_and, not_false_eq_true, not_true_eq_false] at hp)) <;> simp only [h,
          hp, eA_seq, eA_reg, eA_ret, eA_skip, eA_cond, eA_block, eA_exit, eCc_true, eCc_false, Kq_normal, Kq_ret, Kq_exit, Kb_normal, Kb_exit, Kb_ret, Kreg_eq, eI_nil, bindSt_some,
                bindSt_none, bindSt_ite, eR_eq, eGI_tt, eGI_ff, eGI_tf, eGI_ft, eop, vop, ev_t, ev_c, ev_f, Option.map, put_some, put_none, set_eq, setH_eq, get_eq, hp_eq,
                keep_cons, keep_nil, lk_cons, lk_nil, startSt, envOf, reduceIte, Nat.reduceEqDiff, Nat.reduceAdd, Nat.zero_add, Nat.add_zero, Nat.reduceMul, Nat.reduceLT,
                Nat.reduceLeDiff, bop, uop, intop, fltop, convop, true_or, or_true, Bool.false_eq_true, ret_ok, ret_normal, outV, rvV, rvs, ex_some, pureV, pureX, pureX.pure1',
                pure1, Bool.true_and, Bool.false_and, Bool.and_true, Bool.and_false, Option.isNone_none, AV.cells, AV.one, storable, laid, refless, refless1, List.all_cons,
                List.all_nil, List.length_cons, List.length_nil, List.getElem?_cons_zero, List.getElem?_cons_succ, List.set_cons_zero, List.set_cons_succ, List.set_nil,
                List.map_cons, List.map_nil, vload, loadC, storeC, vnil, vfaddr, vextract, callTo, List.mapM_cons, List.mapM_nil, Option.pure_def, Option.bind_eq_bind,
                Option.bind_some, tabOf_cons, flatT, flatE, flatC, and_self, and_true, true_and, implies_true, forall_const, not_true_eq_false, not_false_eq_true, false_implies,
                List.take_succ_cons, List.drop_succ_cons, List.take_zero, List.drop_zero, Bool.not_true, Bool.not_false, beq_self_eq_true, decide_true, decide_false, eq_self,
                Int.reduceEq, Int.reduceLE, Int.reduceLT, Bool.not_not, Bool.true_or, Bool.or_true, Bool.false_or, Bool.or_false, if_true, if_false, List.getElem?_nil, Kl_normal,
                Kl_exit, Kl_ret, fc25_0, fc25_1, fc25_2, fc25_3, fc25_4, fc25_5, fc25_6, fc25_7, fc25_8, cast_lit, toNat_lit, Int.reduceAdd, Int.reduceSub, Int.reduceMul,
                Int.reduceNeg, Int.reducePow, Nat.reducePow, Int.reduceToNat, Nat.reduceSub, Nat.mul_one, Int.toNat_zero, prod_eta, List.nil_append, List.cons_append,
                List.append_nil, Int.le_refl, Nat.le_refl, true_implies, take_all, vconv, vmm, vidxA, viaddrA, iaddr_sl, iaddr_lsl, getE, vfield, vlen, fillC, fillE, List.replicate,
                elemsOf, List.length_map, f2iK_eq, bits_i64, bits_i32, bits_u64, bits_u32, bits_u8, e_mov, g_mov, e_pick, g_pick, e_bin, g_bin, e_un, g_un, e_conv, g_conv, e_call,
                g_call, g_spec_l04Length, g_math_Sqrt, g_spec_l01Finite, g_math_Max, g_math_Min, g_spec_l01Narrow, g_spec_l01AngleWide, dF32_map, dF64_map, dI64_map, dU8_map,
                dBool_map, dStr_map, decL, dF32, dF64, dI64, dU8, dBool, dStr, ↓b_pick, ePk_true, ePk_false]))
      all_goals (try simp only [*, m_spec_BendOf, v_spec_BendOf_0, v_spec_BendOf_1, v_spec_BendOf_2, Bool.and_true, Bool.true_and, Bool.and_false, Bool.false_and, Bool.or_true, Bool.true_or, Bool.or_false, Bool.false_or, Bool.not_true, Bool.not_false, Bool.false_eq_true, if_true, if_false, reduceIte, decide_true, decide_false])
      all_goals (try (simp_all; done))
    · cases h
  · cases h
def m_impl_IsFinite (x0 : Nat) : Bool := (feq .f32 (fsub .f32 x0 x0) 0)
def g_impl_IsFinite : List AV → Option AV
  | [.flt .f32 y0] => some (.bool (m_impl_IsFinite y0))
  | _ => none
def ic51 : ICode := (.seq (.reg [⟨(some 2), none, (.mov (.c (.bool false)))⟩] [0]) (.seq (.reg [⟨(some 3), none, (.mov (.t 0))⟩, ⟨(some 4), none, (.mov (.t 0))⟩, ⟨(some 5), none,
      (.bin .sub false (.t 3) (.t 4))⟩, ⟨(some 6), none, (.bin .eql false (.t 5) (.c (.flt .f32 0)))⟩, ⟨(some 2), none, (.mov (.t 6))⟩] [2]) .ret))
def cp51 : CP := { n := 7, kp := [[0], [2]] }
theorem fc51_0 : IntKind.wrap .i64 (-1) = (-1) := by decide
theorem fc51_1 : IntKind.wrap .i64 1 = 1 := by decide
theorem fc51_2 : IntKind.wrap .i64 11 = 11 := by decide
theorem fc51_3 : IntKind.wrap .i64 13 = 13 := by decide
theorem fc51_4 : IntKind.wrap .i64 2 = 2 := by decide
theorem fc51_5 : IntKind.wrap .i64 3 = 3 := by decide
theorem fc51_6 : IntKind.wrap .i64 5 = 5 := by decide
theorem fc51_7 : IntKind.wrap .i64 7 = 7 := by decide
theorem fc51_8 : IntKind.wrap .i64 9 = 9 := by decide
theorem s51 : ∀ vs r, g_impl_IsFinite vs = some r → Says Try.prog 51 vs r := by
  intro vs r h
  unfold g_impl_IsFinite at h
  split at h
  · rename_i y0
    cases h
    refine spec_of (tab := tabOf []) (cp := cp51) (ic := ic51) (rvl := [(.t 2)]) hm tabOk_nil Try.func51 rfl rfl rfl (by kernel_rfl) rfl (Nat.le_of_ble_eq_true rfl) ?_
    show eA _ _ _ _
    unfold ic51
    simp only [
        eA_seq, eA_reg, eA_ret, eA_skip, eA_cond, eA_block, eA_exit, eCc_true, eCc_false, Kq_normal, Kq_ret, Kq_exit, Kb_normal, Kb_exit, Kb_ret, Kreg_eq, eI_nil, bindSt_some,
              bindSt_none, bindSt_ite, eR_eq, eGI_tt, eGI_ff, eGI_tf, eGI_ft, eop, vop, ev_t, ev_c, ev_f, Option.map, put_some, put_none, set_eq, setH_eq, get_eq, hp_eq, keep_cons,
              keep_nil, lk_cons, lk_nil, startSt, envOf, reduceIte, Nat.reduceEqDiff, Nat.reduceAdd, Nat.zero_add, Nat.add_zero, Nat.reduceMul, Nat.reduceLT, Nat.reduceLeDiff, bop,
              uop, intop, fltop, convop, true_or, or_true, Bool.false_eq_true, ret_ok, ret_normal, outV, rvV, rvs, ex_some, pureV, pureX, pureX.pure1', pure1, Bool.true_and,
              Bool.false_and, Bool.and_true, Bool.and_false, Option.isNone_none, AV.cells, AV.one, storable, laid, refless, refless1, List.all_cons, List.all_nil, List.length_cons,
              List.length_nil, List.getElem?_cons_zero, List.getElem?_cons_succ, List.set_cons_zero, List.set_cons_succ, List.set_nil, List.map_cons, List.map_nil, vload, loadC,
              storeC, vnil, vfaddr, vextract, callTo, List.mapM_cons, List.mapM_nil, Option.pure_def, Option.bind_eq_bind, Option.bind_some, tabOf_cons, flatT, flatE, flatC,
              and_self, and_true, true_and, implies_true, forall_const, not_true_eq_false, not_false_eq_true, false_implies, List.take_succ_cons, List.drop_succ_cons,
              List.take_zero, List.drop_zero, Bool.not_true, Bool.not_false, beq_self_eq_true, decide_true, decide_false, eq_self, Int.reduceEq, Int.reduceLE, Int.reduceLT,
              Bool.not_not, Bool.true_or, Bool.or_true, Bool.false_or, Bool.or_false, if_true, if_false, List.getElem?_nil, Kl_normal, Kl_exit, Kl_ret, fc51_0, fc51_1, fc51_2,
              fc51_3, fc51_4, fc51_5, fc51_6, fc51_7, fc51_8, cast_lit, toNat_lit, Int.reduceAdd, Int.reduceSub, Int.reduceMul, Int.reduceNeg, Int.reducePow, Nat.reducePow,
              Int.reduceToNat, Nat.reduceSub, Nat.mul_one, Int.toNat_zero, prod_eta, List.nil_append, List.cons_append, List.append_nil, Int.le_refl, Nat.le_refl, true_implies,
              take_all, vconv, vmm, vidxA, viaddrA, iaddr_sl, iaddr_lsl, getE, vfield, vlen, fillC, fillE, List.replicate, elemsOf, List.length_map, f2iK_eq, bits_i64, bits_i32,
              bits_u64, bits_u32, bits_u8, e_mov, g_mov, e_bin, g_bin, dF32_map, dF64_map, dI64_map, dU8_map, dBool_map, dStr_map, decL, dF32, dF64, dI64, dU8, dBool, dStr]
    repeat' (first
      | ((first | (refine eGI_of (fun h => ?_) (fun h => ?_)) | (refine eCc_of (fun h => ?_) (fun h => ?_))) <;> (try simp only [Bool.not_eq_true', Bool.not_eq_false'] at h) <;> simp only [h,
        eA_seq, eA_reg, eA_ret, eA_skip, eA_cond, eA_block, eA_exit, eCc_true, eCc_false, Kq_normal, Kq_ret, Kq_exit, Kb_normal, Kb_exit, Kb_ret, Kreg_eq, eI_nil, bindSt_some,
              bindSt_none, bindSt_ite, eR_eq, eGI_tt, eGI_ff, eGI_tf, eGI_ft, eop, vop, ev_t, ev_c, ev_f, Option.map, put_some, put_none, set_eq, setH_eq, get_eq, hp_eq, keep_cons,
              keep_nil, lk_cons, lk_nil, startSt, envOf, reduceIte, Nat.reduceEqDiff, Nat.reduceAdd, Nat.zero_add, Nat.add_zero, Nat.reduceMul, Nat.reduceLT, Nat.reduceLeDiff, bop,
              uop, intop, fltop, convop, true_or, or_true, Bool.false_eq_true, ret_ok, ret_normal, outV, rvV, rvs, ex_some, pureV, pureX, pureX.pure1', pure1, Bool.true_and,
              Bool.false_and, Bool.and_true, Bool.and_false, Option.isNone_none, AV.cells, AV.one, storable, laid, refless, refless1, List.all_cons, List.all_nil, List.length_cons,
              List.length_nil, List.getElem?_cons_zero, List.getElem?_cons_succ, List.set_cons_zero, List.set_cons_succ, List.set_nil, List.map_cons, List.map_nil, vload, loadC,
              storeC, vnil, vfaddr, vextract, callTo, List.mapM_cons, List.mapM_nil, Option.pure_def, Option.bind_eq_bind, Option.bind_some, tabOf_cons, flatT, flatE, flatC,
              and_self, and_true, true_and, implies_true, forall_const, not_true_eq_false, not_false_eq_true, false_implies, List.take_succ_cons, List.drop_succ_cons,
              List.take_zero, List.drop_zero, Bool.not_true, Bool.not_false, beq_self_eq_true, decide_true, decide_false, eq_self, Int.reduceEq, Int.reduceLE, Int.reduceLT,
              Bool.not_not, Bool.true_or, Bool.or_true, Bool.false_or, Bool.or_false, if_true, if_false, List.getElem?_nil, Kl_normal, Kl_exit, Kl_ret, fc51_0, fc51_1, fc51_2,
              fc51_3, fc51_4, fc51_5, fc51_6, fc51_7, fc51_8, cast_lit, toNat_lit, Int.reduceAdd, Int.reduceSub, Int.reduceMul, Int.reduceNeg, Int.reducePow, Nat.reducePow,
              Int.reduceToNat, Nat.reduceSub, Nat.mul_one, Int.toNat_zero, prod_eta, List.nil_append, List.cons_append, List.append_nil, Int.le_refl, Nat.le_refl, true_implies,
              take_all, vconv, vmm, vidxA, viaddrA, iaddr_sl, iaddr_lsl, getE, vfield, vlen, fillC, fillE, List.replicate, elemsOf, List.length_map, f2iK_eq, bits_i64, bits_i32,
              bits_u64, bits_u32, bits_u8, e_mov, g_mov, e_bin, g_bin, dF32_map, dF64_map, dI64_map, dU8_map, dBool_map, dStr_map, decL, dF32, dF64, dI64, dU8, dBool, dStr]))
    all_goals (try simp only [*, m_impl_IsFinite, Bool.and_true, Bool.true_and, Bool.and_false, Bool.false_and, Bool.or_true, Bool.true_or, Bool.or_false, Bool.false_or, Bool.not_true, Bool.not_false, Bool.false_eq_true, if_true, if_false, reduceIte, decide_true, decide_false])
    all_goals (try (simp_all; done))
  · cases h
def m_impl_isPositive (x0 : Nat) : Bool := (if (m_impl_IsFinite x0) = true then (flt .f32 0 x0) else false)
def g_impl_isPositive : List AV → Option AV
  | [.flt .f32 y0] => some (.bool (m_impl_isPositive y0))
  | _ => none
def ic43 : ICode := (.seq (.reg [⟨(some 2), none, (.mov (.c (.bool false)))⟩] [0]) (.seq (.reg [⟨(some 3), none, (.mov (.t 0))⟩, ⟨(some 4), none, (.call (.fn 51) [(.t 3)] [])⟩,
      ⟨(some 5), none, (.mov (.t 4))⟩, ⟨(some 6), (some (5, true)), (.mov (.t 0))⟩, ⟨(some 7), (some (5, true)), (.bin .gtr false (.t 6) (.c (.flt .f32 0)))⟩, ⟨(some 8), none,
      (.pick (.t 5) (.t 7) (.c (.bool false)))⟩, ⟨(some 2), none, (.mov (.t 8))⟩] [2]) .ret))
def cp43 : CP := { n := 9, kp := [[0], [2]] }
theorem fc43_0 : IntKind.wrap .i64 (-1) = (-1) := by decide
theorem fc43_1 : IntKind.wrap .i64 1 = 1 := by decide
theorem fc43_2 : IntKind.wrap .i64 11 = 11 := by decide
theorem fc43_3 : IntKind.wrap .i64 13 = 13 := by decide
theorem fc43_4 : IntKind.wrap .i64 2 = 2 := by decide
theorem fc43_5 : IntKind.wrap .i64 3 = 3 := by decide
theorem fc43_6 : IntKind.wrap .i64 5 = 5 := by decide
theorem fc43_7 : IntKind.wrap .i64 7 = 7 := by decide
theorem fc43_8 : IntKind.wrap .i64 9 = 9 := by decide
theorem s43 : ∀ vs r, g_impl_isPositive vs = some r → Says Try.prog 43 vs r := by
  intro vs r h
  unfold g_impl_isPositive at h
  split at h
  · rename_i y0
    cases h
    refine spec_of (tab := tabOf [(51, g_impl_IsFinite)]) (cp := cp43) (ic := ic43) (rvl := [(.t 2)]) hm (tabOk_cons s51 tabOk_nil) Try.func43 rfl rfl rfl (by kernel_rfl) rfl (Nat.le_of_ble_eq_true rfl) ?_
    show eA _ _ _ _
    unfold ic43
    simp only [
        eA_seq, eA_reg, eA_ret, eA_skip, eA_cond, eA_block, eA_exit, eCc_true, eCc_false, Kq_normal, Kq_ret, Kq_exit, Kb_normal, Kb_exit, Kb_ret, Kreg_eq, eI_nil, bindSt_some,
              bindSt_none, bindSt_ite, eR_eq, eGI_tt, eGI_ff, eGI_tf, eGI_ft, eop, vop, ev_t, ev_c, ev_f, Option.map, put_some, put_none, set_eq, setH_eq, get_eq, hp_eq, keep_cons,
              keep_nil, lk_cons, lk_nil, startSt, envOf, reduceIte, Nat.reduceEqDiff, Nat.reduceAdd, Nat.zero_add, Nat.add_zero, Nat.reduceMul, Nat.reduceLT, Nat.reduceLeDiff, bop,
              uop, intop, fltop, convop, true_or, or_true, Bool.false_eq_true, ret_ok, ret_normal, outV, rvV, rvs, ex_some, pureV, pureX, pureX.pure1', pure1, Bool.true_and,
              Bool.false_and, Bool.and_true, Bool.and_false, Option.isNone_none, AV.cells, AV.one, storable, laid, refless, refless1, List.all_cons, List.all_nil, List.length_cons,
              List.length_nil, List.getElem?_cons_zero, List.getElem?_cons_succ, List.set_cons_zero, List.set_cons_succ, List.set_nil, List.map_cons, List.map_nil, vload, loadC,
              storeC, vnil, vfaddr, vextract, callTo, List.mapM_cons, List.mapM_nil, Option.pure_def, Option.bind_eq_bind, Option.bind_some, tabOf_cons, flatT, flatE, flatC,
              and_self, and_true, true_and, implies_true, forall_const, not_true_eq_false, not_false_eq_true, false_implies, List.take_succ_cons, List.drop_succ_cons,
              List.take_zero, List.drop_zero, Bool.not_true, Bool.not_false, beq_self_eq_true, decide_true, decide_false, eq_self, Int.reduceEq, Int.reduceLE, Int.reduceLT,
              Bool.not_not, Bool.true_or, Bool.or_true, Bool.false_or, Bool.or_false, if_true, if_false, List.getElem?_nil, Kl_normal, Kl_exit, Kl_ret, fc43_0, fc43_1, fc43_2,
              fc43_3, fc43_4, fc43_5, fc43_6, fc43_7, fc43_8, cast_lit, toNat_lit, Int.reduceAdd, Int.reduceSub, Int.reduceMul, Int.reduceNeg, Int.reducePow, Nat.reducePow,
              Int.reduceToNat, Nat.reduceSub, Nat.mul_one, Int.toNat_zero, prod_eta, List.nil_append, List.cons_append, List.append_nil, Int.le_refl, Nat.le_refl, true_implies,
              take_all, vconv, vmm, vidxA, viaddrA, iaddr_sl, iaddr_lsl, getE, vfield, vlen, fillC, fillE, List.replicate, elemsOf, List.length_map, f2iK_eq, bits_i64, bits_i32,
              bits_u64, bits_u32, bits_u8, e_mov, g_mov, e_pick, g_pick, e_bin, g_bin, e_call, g_call, g_impl_IsFinite, dF32_map, dF64_map, dI64_map, dU8_map, dBool_map, dStr_map,
              decL, dF32, dF64, dI64, dU8, dBool, dStr, ↓b_pick, ePk_true, ePk_false]
    repeat' (first
      | ((first | (refine eGI_of (fun h => ?_) (fun h => ?_)) | (refine eCc_of (fun h => ?_) (fun h => ?_)) | (refine ePk_of (fun h => ?_) (fun h => ?_))) <;> (try simp only [Bool.not_eq_true', Bool.not_eq_false'] at h) <;> simp only [h,
        eA_seq, eA_reg, eA_ret, eA_skip, eA_cond, eA_block, eA_exit, eCc_true, eCc_false, Kq_normal, Kq_ret, Kq_exit, Kb_normal, Kb_exit, Kb_ret, Kreg_eq, eI_nil, bindSt_some,
              bindSt_none, bindSt_ite, eR_eq, eGI_tt, eGI_ff, eGI_tf, eGI_ft, eop, vop, ev_t, ev_c, ev_f, Option.map, put_some, put_none, set_eq, setH_eq, get_eq, hp_eq, keep_cons,
              keep_nil, lk_cons, lk_nil, startSt, envOf, reduceIte, Nat.reduceEqDiff, Nat.reduceAdd, Nat.zero_add, Nat.add_zero, Nat.reduceMul, Nat.reduceLT, Nat.reduceLeDiff, bop,
              uop, intop, fltop, convop, true_or, or_true, Bool.false_eq_true, ret_ok, ret_normal, outV, rvV, rvs, ex_some, pureV, pureX, pureX.pure1', pure1, Bool.true_and,
              Bool.false_and, Bool.and_true, Bool.and_false, Option.isNone_none, AV.cells, AV.one, storable, laid, refless, refless1, List.all_cons, List.all_nil, List.length_cons,
              List.length_nil, List.getElem?_cons_zero, List.getElem?_cons_succ, List.set_cons_zero, List.set_cons_succ, List.set_nil, List.map_cons, List.map_nil, vload, loadC,
              storeC, vnil, vfaddr, vextract, callTo, List.mapM_cons, List.mapM_nil, Option.pure_def, Option.bind_eq_bind, Option.bind_some, tabOf_cons, flatT, flatE, flatC,
              and_self, and_true, true_and, implies_true, forall_const, not_true_eq_false, not_false_eq_true, false_implies, List.take_succ_cons, List.drop_succ_cons,
              List.take_zero, List.drop_zero, Bool.not_true, Bool.not_false, beq_self_eq_true, decide_true, decide_false, eq_self, Int.reduceEq, Int.reduceLE, Int.reduceLT,
              Bool.not_not, Bool.true_or, Bool.or_true, Bool.false_or, Bool.or_false, if_true, if_false, List.getElem?_nil, Kl_normal, Kl_exit, Kl_ret, fc43_0, fc43_1, fc43_2,
              fc43_3, fc43_4, fc43_5, fc43_6, fc43_7, fc43_8, cast_lit, toNat_lit, Int.reduceAdd, Int.reduceSub, Int.reduceMul, Int.reduceNeg, Int.reducePow, Nat.reducePow,
              Int.reduceToNat, Nat.reduceSub, Nat.mul_one, Int.toNat_zero, prod_eta, List.nil_append, List.cons_append, List.append_nil, Int.le_refl, Nat.le_refl, true_implies,
              take_all, vconv, vmm, vidxA, viaddrA, iaddr_sl, iaddr_lsl, getE, vfield, vlen, fillC, fillE, List.replicate, elemsOf, List.length_map, f2iK_eq, bits_i64, bits_i32,
              bits_u64, bits_u32, bits_u8, e_mov, g_mov, e_pick, g_pick, e_bin, g_bin, e_call, g_call, g_impl_IsFinite, dF32_map, dF64_map, dI64_map, dU8_map, dBool_map, dStr_map,
              decL, dF32, dF64, dI64, dU8, dBool, dStr, ↓b_pick, ePk_true, ePk_false]))
    all_goals (try simp only [*, m_impl_isPositive, Bool.and_true, Bool.true_and, Bool.and_false, Bool.false_and, Bool.or_true, Bool.true_or, Bool.or_false, Bool.false_or, Bool.not_true, Bool.not_false, Bool.false_eq_true, if_true, if_false, reduceIte, decide_true, decide_false])
    all_goals (try (simp_all; done))
  · cases h
def v_impl_wideAngle_0 (x0 : Nat) (x1 : Nat) : Nat := (fmul .f64 (if (flt .f64 (fabs x1) (fabs x0)) = true then (fdiv .f64 (fabs x1) (fabs x0)) else (fdiv .f64 (fabs x0) (fabs x1)))
      (if (flt .f64 (fabs x1) (fabs x0)) = true then (fdiv .f64 (fabs x1) (fabs x0)) else (fdiv .f64 (fabs x0) (fabs x1))))
def v_impl_wideAngle_1 (x0 : Nat) (x1 : Nat) : Nat := (fdiv .f64 (if (flt .f64 (fabs x1) (fabs x0)) = true then (fdiv .f64 (fabs x1) (fabs x0)) else (fdiv .f64 (fabs x0) (fabs x1)))
      (fadd .f64 4607182418800017408 (m_math_Sqrt (fadd .f64 4607182418800017408 (v_impl_wideAngle_0 x0 x1)))))
def v_impl_wideAngle_2 (x0 : Nat) (x1 : Nat) : Nat := (fdiv .f64 (v_impl_wideAngle_1 x0 x1) (fadd .f64 4607182418800017408 (m_math_Sqrt (fadd .f64 4607182418800017408 (fmul .f64
      (v_impl_wideAngle_1 x0 x1) (v_impl_wideAngle_1 x0 x1))))))
def v_impl_wideAngle_3 (x0 : Nat) (x1 : Nat) : Nat := (fdiv .f64 (v_impl_wideAngle_2 x0 x1) (fadd .f64 4607182418800017408 (m_math_Sqrt (fadd .f64 4607182418800017408 (fmul .f64
      (v_impl_wideAngle_2 x0 x1) (v_impl_wideAngle_2 x0 x1))))))
def v_impl_wideAngle_4 (x0 : Nat) (x1 : Nat) : Nat := (fmul .f64 (fmul .f64 (v_impl_wideAngle_3 x0 x1) (v_impl_wideAngle_3 x0 x1)) (fsub .f64 (fdiv .f64 4607182418800017408 (ofInt
      .f64 15)) (fmul .f64 (fmul .f64 (v_impl_wideAngle_3 x0 x1) (v_impl_wideAngle_3 x0 x1)) 0)))
def v_impl_wideAngle_5 (x0 : Nat) (x1 : Nat) : Nat := (fmul .f64 (fmul .f64 (v_impl_wideAngle_3 x0 x1) (v_impl_wideAngle_3 x0 x1)) (fsub .f64 (fdiv .f64 4607182418800017408 (ofInt
      .f64 13)) (v_impl_wideAngle_4 x0 x1)))
def v_impl_wideAngle_6 (x0 : Nat) (x1 : Nat) : Nat := (fmul .f64 (fmul .f64 (v_impl_wideAngle_3 x0 x1) (v_impl_wideAngle_3 x0 x1)) (fsub .f64 (fdiv .f64 4607182418800017408 (ofInt
      .f64 11)) (v_impl_wideAngle_5 x0 x1)))
def v_impl_wideAngle_7 (x0 : Nat) (x1 : Nat) : Nat := (fmul .f64 (fmul .f64 (v_impl_wideAngle_3 x0 x1) (v_impl_wideAngle_3 x0 x1)) (fsub .f64 (fdiv .f64 4607182418800017408 (ofInt
      .f64 9)) (v_impl_wideAngle_6 x0 x1)))
def v_impl_wideAngle_8 (x0 : Nat) (x1 : Nat) : Nat := (fmul .f64 (fmul .f64 (v_impl_wideAngle_3 x0 x1) (v_impl_wideAngle_3 x0 x1)) (fsub .f64 (fdiv .f64 4607182418800017408 (ofInt
      .f64 7)) (v_impl_wideAngle_7 x0 x1)))
def v_impl_wideAngle_9 (x0 : Nat) (x1 : Nat) : Nat := (fmul .f64 (fmul .f64 (v_impl_wideAngle_3 x0 x1) (v_impl_wideAngle_3 x0 x1)) (fsub .f64 (fdiv .f64 4607182418800017408 (ofInt
      .f64 5)) (v_impl_wideAngle_8 x0 x1)))
def v_impl_wideAngle_10 (x0 : Nat) (x1 : Nat) : Nat := (fmul .f64 (fmul .f64 (v_impl_wideAngle_3 x0 x1) (v_impl_wideAngle_3 x0 x1)) (fsub .f64 (fdiv .f64 4607182418800017408 (ofInt
      .f64 3)) (v_impl_wideAngle_9 x0 x1)))
def v_impl_wideAngle_11 (x0 : Nat) (x1 : Nat) : Nat := (fdiv .f64 (fmul .f64 4620693217682128896 (fmul .f64 (v_impl_wideAngle_3 x0 x1) (fsub .f64 (fdiv .f64 4607182418800017408
      (ofInt .f64 1)) (v_impl_wideAngle_10 x0 x1)))) 4618760256179416344)
def v_impl_wideAngle_12 (x0 : Nat) (x1 : Nat) : Nat := (fsub .f64 4602678819172646912 (if (flt .f64 (fabs x1) (fabs x0)) = true then (fsub .f64 4598175219545276416
      (v_impl_wideAngle_11 x0 x1)) else (v_impl_wideAngle_11 x0 x1)))
def v_impl_wideAngle_13 (x0 : Nat) (x1 : Nat) : Nat := (if (flt .f64 x1 0) = true then (v_impl_wideAngle_12 x0 x1) else (if (flt .f64 (fabs x1) (fabs x0)) = true then (fsub .f64
      4598175219545276416 (v_impl_wideAngle_11 x0 x1)) else (v_impl_wideAngle_11 x0 x1)))
def m_impl_wideAngle (x0 : Nat) (x1 : Nat) : Nat := (if (flt .f64 x0 0) = true then (fneg .f64 (v_impl_wideAngle_13 x0 x1)) else (v_impl_wideAngle_13 x0 x1))
def g_impl_wideAngle : List AV → Option AV
  | [.flt .f64 y0, .flt .f64 y1] => some (.flt .f64 (m_impl_wideAngle y0 y1))
  | _ => none
def ic52 : ICode := (.seq (.reg [⟨(some 4), none, (.mov (.c (.flt .f64 0)))⟩] [0, 1]) (.seq (.reg [⟨(some 12), none, (.mov (.t 0))⟩, ⟨(some 13), none, (.call (.fn 71) [(.t 12)]
      [])⟩, ⟨(some 14), none, (.mov (.t 1))⟩, ⟨(some 15), none, (.call (.fn 71) [(.t 14)] [])⟩, ⟨(some 5), none, (.mov (.t 13))⟩, ⟨(some 6), none, (.mov (.t 15))⟩] [0, 1, 5, 6])
      (.seq (.reg [⟨(some 16), none, (.mov (.t 5))⟩, ⟨(some 17), none, (.mov (.t 6))⟩, ⟨(some 18), none, (.bin .quo false (.t 16) (.t 17))⟩, ⟨(some 7), none, (.mov (.t 18))⟩] [0, 1,
      5, 6, 7]) (.seq (.seq (.reg [⟨(some 19), none, (.mov (.t 5))⟩, ⟨(some 20), none, (.mov (.t 6))⟩, ⟨(some 21), none, (.bin .gtr false (.t 19) (.t 20))⟩] [0, 1, 5, 6, 7, 21])
      (.cond (.t 21) (.reg [⟨(some 22), none, (.mov (.t 6))⟩, ⟨(some 23), none, (.mov (.t 5))⟩, ⟨(some 24), none, (.bin .quo false (.t 22) (.t 23))⟩, ⟨(some 7), none, (.mov (.t
      24))⟩] [0, 1, 5, 6, 7]) .skip)) (.seq (.seq (.reg [⟨(some 25), none, (.mov (.c (.int .i64 0)))⟩] [0, 1, 5, 6, 7, 25]) (.block 0 (.loop (.seq (.reg [⟨(some 26), none, (.bin
      .lss false (.t 25) (.c (.int .i64 3)))⟩] [0, 1, 5, 6, 7, 25, 26]) (.seq (.cond (.t 26) .skip (.exit 0)) (.seq (.block 1 (.reg [⟨(some 27), none, (.mov (.t 7))⟩, ⟨(some 28),
      none, (.mov (.t 7))⟩, ⟨(some 29), none, (.mov (.t 7))⟩, ⟨(some 30), none, (.bin .mul false (.t 28) (.t 29))⟩, ⟨(some 31), none, (.bin .add false (.c (.flt .f64
      4607182418800017408)) (.t 30))⟩, ⟨(some 32), none, (.call (.fn 53) [(.t 31)] [])⟩, ⟨(some 33), none, (.bin .add false (.c (.flt .f64 4607182418800017408)) (.t 32))⟩, ⟨(some
      34), none, (.bin .quo false (.t 27) (.t 33))⟩, ⟨(some 7), none, (.mov (.t 34))⟩] [0, 1, 5, 6, 7, 25])) (.reg [⟨(some 35), none, (.bin .add false (.t 25) (.c (.int .i64 1)))⟩,
      ⟨(some 25), none, (.mov (.t 35))⟩] [0, 1, 5, 6, 7, 25]))))))) (.seq (.reg [⟨(some 36), none, (.mov (.t 7))⟩, ⟨(some 37), none, (.mov (.t 7))⟩, ⟨(some 38), none, (.bin .mul
      false (.t 36) (.t 37))⟩, ⟨(some 8), none, (.mov (.t 38))⟩] [0, 1, 5, 6, 7, 8]) (.seq (.reg [⟨(some 9), none, (.mov (.c (.flt .f64 0)))⟩] [0, 1, 5, 6, 7, 8, 9]) (.seq (.seq
      (.reg [⟨(some 10), none, (.mov (.c (.int .i64 15)))⟩] [0, 1, 5, 6, 7, 8, 9, 10]) (.block 2 (.loop (.seq (.seq (.reg [⟨(some 39), none, (.mov (.t 10))⟩, ⟨(some 40), none, (.bin
      .geq false (.t 39) (.c (.int .i64 1)))⟩] [0, 1, 5, 6, 7, 8, 9, 10, 40]) (.cond (.t 40) .skip (.exit 2))) (.seq (.block 3 (.reg [⟨(some 43), none, (.mov (.t 10))⟩, ⟨(some 44),
      none, (.conv (.flt .f64) (.t 43))⟩, ⟨(some 45), none, (.bin .quo false (.c (.flt .f64 4607182418800017408)) (.t 44))⟩, ⟨(some 46), none, (.mov (.t 8))⟩, ⟨(some 47), none,
      (.mov (.t 9))⟩, ⟨(some 48), none, (.bin .mul false (.t 46) (.t 47))⟩, ⟨(some 49), none, (.bin .sub false (.t 45) (.t 48))⟩, ⟨(some 9), none, (.mov (.t 49))⟩] [0, 1, 5, 6, 7,
      8, 9, 10])) (.reg [⟨(some 41), none, (.mov (.t 10))⟩, ⟨(some 42), none, (.bin .sub false (.t 41) (.c (.int .i64 2)))⟩, ⟨(some 10), none, (.mov (.t 42))⟩] [0, 1, 5, 6, 7, 8, 9,
      10])))))) (.seq (.reg [⟨(some 50), none, (.mov (.t 7))⟩, ⟨(some 51), none, (.mov (.t 9))⟩, ⟨(some 52), none, (.bin .mul false (.t 50) (.t 51))⟩, ⟨(some 53), none, (.bin .mul
      false (.c (.flt .f64 4620693217682128896)) (.t 52))⟩, ⟨(some 54), none, (.bin .quo false (.t 53) (.c (.flt .f64 4618760256179416344)))⟩, ⟨(some 11), none, (.mov (.t 54))⟩] [0,
      1, 5, 6, 11]) (.seq (.seq (.reg [⟨(some 55), none, (.mov (.t 5))⟩, ⟨(some 56), none, (.mov (.t 6))⟩, ⟨(some 57), none, (.bin .gtr false (.t 55) (.t 56))⟩] [0, 1, 11, 57])
      (.cond (.t 57) (.reg [⟨(some 58), none, (.mov (.t 11))⟩, ⟨(some 59), none, (.bin .sub false (.c (.flt .f64 4598175219545276416)) (.t 58))⟩, ⟨(some 11), none, (.mov (.t 59))⟩]
      [0, 1, 11]) .skip)) (.seq (.seq (.reg [⟨(some 60), none, (.mov (.t 1))⟩, ⟨(some 61), none, (.bin .lss false (.t 60) (.c (.flt .f64 0)))⟩] [0, 11, 61]) (.cond (.t 61) (.reg
      [⟨(some 62), none, (.mov (.t 11))⟩, ⟨(some 63), none, (.bin .sub false (.c (.flt .f64 4602678819172646912)) (.t 62))⟩, ⟨(some 11), none, (.mov (.t 63))⟩] [0, 11]) .skip))
      (.seq (.seq (.reg [⟨(some 64), none, (.mov (.t 0))⟩, ⟨(some 65), none, (.bin .lss false (.t 64) (.c (.flt .f64 0)))⟩] [11, 65]) (.cond (.t 65) (.reg [⟨(some 66), none, (.mov
      (.t 11))⟩, ⟨(some 67), none, (.un .neg (.t 66))⟩, ⟨(some 11), none, (.mov (.t 67))⟩] [11]) .skip)) (.seq (.reg [⟨(some 68), none, (.mov (.t 11))⟩, ⟨(some 4), none, (.mov (.t
      68))⟩] [4]) .ret)))))))))))))
def cp52 : CP := { n := 69, kp := [[0, 1], [0, 1, 5, 6], [0, 1, 5, 6, 7], [0, 1, 5, 6, 7, 21], [0, 1, 5, 6, 7], [0, 1, 5, 6, 7, 25], [0, 1, 5, 6, 7, 25, 26], [0, 1, 5, 6, 7, 25],
      [0, 1, 5, 6, 7, 25], [0, 1, 5, 6, 7, 8], [0, 1, 5, 6, 7, 8, 9], [0, 1, 5, 6, 7, 8, 9, 10], [0, 1, 5, 6, 7, 8, 9, 10, 40], [0, 1, 5, 6, 7, 8, 9, 10], [0, 1, 5, 6, 7, 8, 9, 10],
      [0, 1, 5, 6, 11], [0, 1, 11, 57], [0, 1, 11], [0, 11, 61], [0, 11], [11, 65], [11], [4]] }
theorem fc52_0 : IntKind.wrap .i64 (-1) = (-1) := by decide
theorem fc52_1 : IntKind.wrap .i64 1 = 1 := by decide
theorem fc52_2 : IntKind.wrap .i64 11 = 11 := by decide
theorem fc52_3 : IntKind.wrap .i64 13 = 13 := by decide
theorem fc52_4 : IntKind.wrap .i64 2 = 2 := by decide
theorem fc52_5 : IntKind.wrap .i64 3 = 3 := by decide
theorem fc52_6 : IntKind.wrap .i64 5 = 5 := by decide
theorem fc52_7 : IntKind.wrap .i64 7 = 7 := by decide
theorem fc52_8 : IntKind.wrap .i64 9 = 9 := by decide
theorem s52 : ∀ vs r, g_impl_wideAngle vs = some r → Says Try.prog 52 vs r := by
  intro vs r h
  unfold g_impl_wideAngle at h
  split at h
  · rename_i y0 y1
    cases h
    refine spec_of (tab := tabOf [(53, g_math_Sqrt), (71, g_abs)]) (cp := cp52) (ic := ic52) (rvl := [(.t 4)]) hm (tabOk_cons s53 (tabOk_cons s71 tabOk_nil)) Try.func52 rfl rfl rfl (by kernel_rfl) rfl (Nat.le_of_ble_eq_true rfl) ?_
    show eA _ _ _ _
    unfold ic52
    simp only [
        eA_seq, eA_reg, eA_ret, eA_skip, eA_cond, eA_block, eA_exit, eCc_true, eCc_false, Kq_normal, Kq_ret, Kq_exit, Kb_normal, Kb_exit, Kb_ret, Kreg_eq, eI_nil, bindSt_some,
              bindSt_none, bindSt_ite, eR_eq, eGI_tt, eGI_ff, eGI_tf, eGI_ft, eop, vop, ev_t, ev_c, ev_f, Option.map, put_some, put_none, set_eq, setH_eq, get_eq, hp_eq, keep_cons,
              keep_nil, lk_cons, lk_nil, startSt, envOf, reduceIte, Nat.reduceEqDiff, Nat.reduceAdd, Nat.zero_add, Nat.add_zero, Nat.reduceMul, Nat.reduceLT, Nat.reduceLeDiff, bop,
              uop, intop, fltop, convop, true_or, or_true, Bool.false_eq_true, ret_ok, ret_normal, outV, rvV, rvs, ex_some, pureV, pureX, pureX.pure1', pure1, Bool.true_and,
              Bool.false_and, Bool.and_true, Bool.and_false, Option.isNone_none, AV.cells, AV.one, storable, laid, refless, refless1, List.all_cons, List.all_nil, List.length_cons,
              List.length_nil, List.getElem?_cons_zero, List.getElem?_cons_succ, List.set_cons_zero, List.set_cons_succ, List.set_nil, List.map_cons, List.map_nil, vload, loadC,
              storeC, vnil, vfaddr, vextract, callTo, List.mapM_cons, List.mapM_nil, Option.pure_def, Option.bind_eq_bind, Option.bind_some, tabOf_cons, flatT, flatE, flatC,
              and_self, and_true, true_and, implies_true, forall_const, not_true_eq_false, not_false_eq_true, false_implies, List.take_succ_cons, List.drop_succ_cons,
              List.take_zero, List.drop_zero, Bool.not_true, Bool.not_false, beq_self_eq_true, decide_true, decide_false, eq_self, Int.reduceEq, Int.reduceLE, Int.reduceLT,
              Bool.not_not, Bool.true_or, Bool.or_true, Bool.false_or, Bool.or_false, if_true, if_false, List.getElem?_nil, Kl_normal, Kl_exit, Kl_ret, fc52_0, fc52_1, fc52_2,
              fc52_3, fc52_4, fc52_5, fc52_6, fc52_7, fc52_8, cast_lit, toNat_lit, Int.reduceAdd, Int.reduceSub, Int.reduceMul, Int.reduceNeg, Int.reducePow, Nat.reducePow,
              Int.reduceToNat, Nat.reduceSub, Nat.mul_one, Int.toNat_zero, prod_eta, List.nil_append, List.cons_append, List.append_nil, Int.le_refl, Nat.le_refl, true_implies,
              take_all, vconv, vmm, vidxA, viaddrA, iaddr_sl, iaddr_lsl, getE, vfield, vlen, fillC, fillE, List.replicate, elemsOf, List.length_map, f2iK_eq, bits_i64, bits_i32,
              bits_u64, bits_u32, bits_u8, e_mov, g_mov, e_bin, g_bin, e_un, g_un, e_conv, g_conv, e_call, g_call, g_math_Sqrt, g_abs, dF32_map, dF64_map, dI64_map, dU8_map,
              dBool_map, dStr_map, decL, dF32, dF64, dI64, dU8, dBool, dStr]
    repeat' (first
      | ((first | (refine eGI_of (fun h => ?_) (fun h => ?_)) | (refine eCc_of (fun h => ?_) (fun h => ?_)) | (have h := True.intro; refine KW_refl ?_) | (have h := True.intro; refine eA_loop ?_)) <;> (try simp only [Bool.not_eq_true', Bool.not_eq_false'] at h) <;> simp only [h,
        eA_seq, eA_reg, eA_ret, eA_skip, eA_cond, eA_block, eA_exit, eCc_true, eCc_false, Kq_normal, Kq_ret, Kq_exit, Kb_normal, Kb_exit, Kb_ret, Kreg_eq, eI_nil, bindSt_some,
              bindSt_none, bindSt_ite, eR_eq, eGI_tt, eGI_ff, eGI_tf, eGI_ft, eop, vop, ev_t, ev_c, ev_f, Option.map, put_some, put_none, set_eq, setH_eq, get_eq, hp_eq, keep_cons,
              keep_nil, lk_cons, lk_nil, startSt, envOf, reduceIte, Nat.reduceEqDiff, Nat.reduceAdd, Nat.zero_add, Nat.add_zero, Nat.reduceMul, Nat.reduceLT, Nat.reduceLeDiff, bop,
              uop, intop, fltop, convop, true_or, or_true, Bool.false_eq_true, ret_ok, ret_normal, outV, rvV, rvs, ex_some, pureV, pureX, pureX.pure1', pure1, Bool.true_and,
              Bool.false_and, Bool.and_true, Bool.and_false, Option.isNone_none, AV.cells, AV.one, storable, laid, refless, refless1, List.all_cons, List.all_nil, List.length_cons,
              List.length_nil, List.getElem?_cons_zero, List.getElem?_cons_succ, List.set_cons_zero, List.set_cons_succ, List.set_nil, List.map_cons, List.map_nil, vload, loadC,
              storeC, vnil, vfaddr, vextract, callTo, List.mapM_cons, List.mapM_nil, Option.pure_def, Option.bind_eq_bind, Option.bind_some, tabOf_cons, flatT, flatE, flatC,
              and_self, and_true, true_and, implies_true, forall_const, not_true_eq_false, not_false_eq_true, false_implies, List.take_succ_cons, List.drop_succ_cons,
              List.take_zero, List.drop_zero, Bool.not_true, Bool.not_false, beq_self_eq_true, decide_true, decide_false, eq_self, Int.reduceEq, Int.reduceLE, Int.reduceLT,
              Bool.not_not, Bool.true_or, Bool.or_true, Bool.false_or, Bool.or_false, if_true, if_false, List.getElem?_nil, Kl_normal, Kl_exit, Kl_ret, fc52_0, fc52_1, fc52_2,
              fc52_3, fc52_4, fc52_5, fc52_6, fc52_7, fc52_8, cast_lit, toNat_lit, Int.reduceAdd, Int.reduceSub, Int.reduceMul, Int.reduceNeg, Int.reducePow, Nat.reducePow,
              Int.reduceToNat, Nat.reduceSub, Nat.mul_one, Int.toNat_zero, prod_eta, List.nil_append, List.cons_append, List.append_nil, Int.le_refl, Nat.le_refl, true_implies,
              take_all, vconv, vmm, vidxA, viaddrA, iaddr_sl, iaddr_lsl, getE, vfield, vlen, fillC, fillE, List.replicate, elemsOf, List.length_map, f2iK_eq, bits_i64, bits_i32,
              bits_u64, bits_u32, bits_u8, e_mov, g_mov, e_bin, g_bin, e_un, g_un, e_conv, g_conv, e_call, g_call, g_math_Sqrt, g_abs, dF32_map, dF64_map, dI64_map, dU8_map,
              dBool_map, dStr_map, decL, dF32, dF64, dI64, dU8, dBool, dStr]))
    all_goals (try simp only [*, m_impl_wideAngle, v_impl_wideAngle_0, v_impl_wideAngle_1, v_impl_wideAngle_2, v_impl_wideAngle_3, v_impl_wideAngle_4, v_impl_wideAngle_5, v_impl_wideAngle_6, v_impl_wideAngle_7, v_impl_wideAngle_8, v_impl_wideAngle_9, v_impl_wideAngle_10, v_impl_wideAngle_11, v_impl_wideAngle_12, v_impl_wideAngle_13, Bool.and_true, Bool.true_and, Bool.and_false, Bool.false_and, Bool.or_true, Bool.true_or, Bool.or_false, Bool.false_or, Bool.not_true, Bool.not_false, Bool.false_eq_true, if_true, if_false, reduceIte, decide_true, decide_false])
    all_goals (try (simp_all; done))
  · cases h
def v_impl_BendOf_0 (x0 : Nat) (x1 : Nat) (x2 : Nat) : Nat := (fdiv .f64 (fsub .f64 (fadd .f64 (fmul .f64 (widen x0) (widen x0)) (fmul .f64 (widen x1) (widen x1))) (fmul .f64 (widen
      x2) (widen x2))) (fmul .f64 (fmul .f64 4611686018427387904 (widen x0)) (widen x1)))
def v_impl_BendOf_1 (x0 : Nat) (x1 : Nat) (x2 : Nat) : Nat := (fmul .f64 (fmin .f64 (fmax .f64 (v_impl_BendOf_0 x0 x1 x2) 13830554455654793216) 4607182418800017408) (fmin .f64 (fmax
      .f64 (v_impl_BendOf_0 x0 x1 x2) 13830554455654793216) 4607182418800017408))
def v_impl_BendOf_2 (x0 : Nat) (x1 : Nat) (x2 : Nat) : Nat := (m_impl_wideAngle (m_math_Sqrt (fsub .f64 4607182418800017408 (v_impl_BendOf_1 x0 x1 x2))) (fmin .f64 (fmax .f64
      (v_impl_BendOf_0 x0 x1 x2) 13830554455654793216) 4607182418800017408))
def m_impl_BendOf (x0 : Nat) (x1 : Nat) (x2 : Nat) : (Nat × Bool) := (if (m_impl_isPositive x0) = true then (if (m_impl_isPositive x1) = true then (if (m_impl_IsFinite x2) = true
      then (if (flt .f32 x2 0) = true then (0, false) else ((narrow (v_impl_BendOf_2 x0 x1 x2)), true)) else (0, false)) else (0, false)) else (0, false))
def p_impl_BendOf (x0 : Nat) (x1 : Nat) (x2 : Nat) : Bool := (!(m_impl_isPositive x0) || (!(m_impl_isPositive x1) || (!(m_impl_IsFinite x2) || ((flt .f32 x2 0) || (narrowOk
      (v_impl_BendOf_2 x0 x1 x2))))))
def g_impl_BendOf : List AV → Option AV
  | [.flt .f32 y0, .flt .f32 y1, .flt .f32 y2] => if p_impl_BendOf y0 y1 y2 = true then some (AV.tup [(.flt .f32 (m_impl_BendOf y0 y1 y2).1),
      (.bool (m_impl_BendOf y0 y1 y2).2)]) else none
  | _ => none
def ic17 : ICode := (.seq (.reg [⟨(some 6), none, (.mov (.c (.flt .f32 0)))⟩, ⟨(some 7), none, (.mov (.c (.bool false)))⟩] [0, 1, 2]) (.seq (.seq (.reg [⟨(some 12), none, (.mov (.t
      0))⟩, ⟨(some 13), none, (.call (.fn 43) [(.t 12)] [])⟩, ⟨(some 14), none, (.un .not (.t 13))⟩, ⟨(some 15), none, (.mov (.t 14))⟩, ⟨(some 16), (some (15, false)), (.mov (.t
      1))⟩, ⟨(some 17), (some (15, false)), (.call (.fn 43) [(.t 16)] [])⟩, ⟨(some 18), (some (15, false)), (.un .not (.t 17))⟩, ⟨(some 19), none, (.pick (.t 15) (.c (.bool true))
      (.t 18))⟩, ⟨(some 20), none, (.mov (.t 19))⟩, ⟨(some 21), (some (20, false)), (.mov (.t 2))⟩, ⟨(some 22), (some (20, false)), (.call (.fn 51) [(.t 21)] [])⟩, ⟨(some 23), (some
      (20, false)), (.un .not (.t 22))⟩, ⟨(some 24), none, (.pick (.t 20) (.c (.bool true)) (.t 23))⟩, ⟨(some 25), none, (.mov (.t 24))⟩, ⟨(some 26), (some (25, false)), (.mov (.t
      2))⟩, ⟨(some 27), (some (25, false)), (.bin .lss false (.t 26) (.c (.flt .f32 0)))⟩, ⟨(some 28), none, (.pick (.t 25) (.c (.bool true)) (.t 27))⟩] [0, 1, 2, 28]) (.cond (.t
      28) (.seq (.reg [⟨(some 6), none, (.mov (.c (.flt .f32 0)))⟩, ⟨(some 7), none, (.mov (.c (.bool false)))⟩] [6, 7]) .ret) .skip)) (.seq (.reg [⟨(some 29), none, (.mov (.t 0))⟩,
      ⟨(some 30), none, (.conv (.flt .f64) (.t 29))⟩, ⟨(some 31), none, (.mov (.t 1))⟩, ⟨(some 32), none, (.conv (.flt .f64) (.t 31))⟩, ⟨(some 33), none, (.mov (.t 2))⟩, ⟨(some 34),
      none, (.conv (.flt .f64) (.t 33))⟩, ⟨(some 8), none, (.mov (.t 30))⟩, ⟨(some 9), none, (.mov (.t 32))⟩, ⟨(some 10), none, (.mov (.t 34))⟩] [8, 9, 10]) (.seq (.reg [⟨(some 35),
      none, (.mov (.t 8))⟩, ⟨(some 36), none, (.mov (.t 8))⟩, ⟨(some 37), none, (.bin .mul false (.t 35) (.t 36))⟩, ⟨(some 38), none, (.mov (.t 9))⟩, ⟨(some 39), none, (.mov (.t
      9))⟩, ⟨(some 40), none, (.bin .mul false (.t 38) (.t 39))⟩, ⟨(some 41), none, (.bin .add false (.t 37) (.t 40))⟩, ⟨(some 42), none, (.mov (.t 10))⟩, ⟨(some 43), none, (.mov
      (.t 10))⟩, ⟨(some 44), none, (.bin .mul false (.t 42) (.t 43))⟩, ⟨(some 45), none, (.bin .sub false (.t 41) (.t 44))⟩, ⟨(some 46), none, (.mov (.t 8))⟩, ⟨(some 47), none,
      (.bin .mul false (.c (.flt .f64 4611686018427387904)) (.t 46))⟩, ⟨(some 48), none, (.mov (.t 9))⟩, ⟨(some 49), none, (.bin .mul false (.t 47) (.t 48))⟩, ⟨(some 50), none,
      (.bin .quo false (.t 45) (.t 49))⟩, ⟨(some 11), none, (.mov (.t 50))⟩] [11]) (.seq (.reg [⟨(some 51), none, (.mov (.t 11))⟩, ⟨(some 52), none, (.mm true (.t 51) (.c (.flt .f64
      13830554455654793216)))⟩, ⟨(some 53), none, (.mm false (.t 52) (.c (.flt .f64 4607182418800017408)))⟩, ⟨(some 11), none, (.mov (.t 53))⟩] [11]) (.seq (.reg [⟨(some 54), none,
      (.mov (.t 11))⟩, ⟨(some 55), none, (.mov (.t 11))⟩, ⟨(some 56), none, (.bin .mul false (.t 54) (.t 55))⟩, ⟨(some 57), none, (.bin .sub false (.c (.flt .f64
      4607182418800017408)) (.t 56))⟩, ⟨(some 58), none, (.call (.fn 53) [(.t 57)] [])⟩, ⟨(some 59), none, (.mov (.t 11))⟩, ⟨(some 60), none, (.call (.fn 52) [(.t 58), (.t 59)]
      [])⟩, ⟨(some 61), none, (.conv (.flt .f32) (.t 60))⟩, ⟨(some 6), none, (.mov (.t 61))⟩, ⟨(some 7), none, (.mov (.c (.bool true)))⟩] [6, 7]) .ret))))))
def cp17 : CP := { n := 62, kp := [[0, 1, 2], [0, 1, 2, 28], [6, 7], [8, 9, 10], [11], [11], [6, 7]] }
theorem fc17_0 : IntKind.wrap .i64 (-1) = (-1) := by decide
theorem fc17_1 : IntKind.wrap .i64 1 = 1 := by decide
theorem fc17_2 : IntKind.wrap .i64 11 = 11 := by decide
theorem fc17_3 : IntKind.wrap .i64 13 = 13 := by decide
theorem fc17_4 : IntKind.wrap .i64 2 = 2 := by decide
theorem fc17_5 : IntKind.wrap .i64 3 = 3 := by decide
theorem fc17_6 : IntKind.wrap .i64 5 = 5 := by decide
theorem fc17_7 : IntKind.wrap .i64 7 = 7 := by decide
theorem fc17_8 : IntKind.wrap .i64 9 = 9 := by decide
theorem s17 : ∀ vs r, g_impl_BendOf vs = some r → Says Try.prog 17 vs r := by
  intro vs r h
  unfold g_impl_BendOf at h
  split at h
  · rename_i y0 y1 y2
    split at h
    · rename_i hp
      cases h
      refine spec_of (tab := tabOf [(43, g_impl_isPositive), (51, g_impl_IsFinite), (52, g_impl_wideAngle), (53, g_math_Sqrt)]) (cp := cp17) (ic := ic17) (rvl := [(.t 6), (.t 7)]) hm (tabOk_cons s43 (tabOk_cons s51 (tabOk_cons s52 (tabOk_cons s53 tabOk_nil)))) Try.func17 rfl rfl rfl (by kernel_rfl) rfl (Nat.le_of_ble_eq_true rfl) ?_
      show eA _ _ _ _
      unfold ic17
      simp only [p_impl_BendOf, v_impl_BendOf_0, v_impl_BendOf_1, v_impl_BendOf_2, Bool.and_eq_true, Bool.or_eq_true, decide_eq_true_eq, Bool.not_eq_true', decide_eq_false_iff_not] at hp
      simp only [
          hp, eA_seq, eA_reg, eA_ret, eA_skip, eA_cond, eA_block, eA_exit, eCc_true, eCc_false, Kq_normal, Kq_ret, Kq_exit, Kb_normal, Kb_exit, Kb_ret, Kreg_eq, eI_nil, bindSt_some,
                bindSt_none, bindSt_ite, eR_eq, eGI_tt, eGI_ff, eGI_tf, eGI_ft, eop, vop, ev_t, ev_c, ev_f, Option.map, put_some, put_none, set_eq, setH_eq, get_eq, hp_eq,
                keep_cons, keep_nil, lk_cons, lk_nil, startSt, envOf, reduceIte, Nat.reduceEqDiff, Nat.reduceAdd, Nat.zero_add, Nat.add_zero, Nat.reduceMul, Nat.reduceLT,
                Nat.reduceLeDiff, bop, uop, intop, fltop, convop, true_or, or_true, Bool.false_eq_true, ret_ok, ret_normal, outV, rvV, rvs, ex_some, pureV, pureX, pureX.pure1',
                pure1, Bool.true_and, Bool.false_and, Bool.and_true, Bool.and_false, Option.isNone_none, AV.cells, AV.one, storable, laid, refless, refless1, List.all_cons,
                List.all_nil, List.length_cons, List.length_nil, List.getElem?_cons_zero, List.getElem?_cons_succ, List.set_cons_zero, List.set_cons_succ, List.set_nil,
                List.map_cons, List.map_nil, vload, loadC, storeC, vnil, vfaddr, vextract, callTo, List.mapM_cons, List.mapM_nil, Option.pure_def, Option.bind_eq_bind,
                Option.bind_some, tabOf_cons, flatT, flatE, flatC, and_self, and_true, true_and, implies_true, forall_const, not_true_eq_false, not_false_eq_true, false_implies,
                List.take_succ_cons, List.drop_succ_cons, List.take_zero, List.drop_zero, Bool.not_true, Bool.not_false, beq_self_eq_true, decide_true, decide_false, eq_self,
                Int.reduceEq, Int.reduceLE, Int.reduceLT, Bool.not_not, Bool.true_or, Bool.or_true, Bool.false_or, Bool.or_false, if_true, if_false, List.getElem?_nil, Kl_normal,
                Kl_exit, Kl_ret, fc17_0, fc17_1, fc17_2, fc17_3, fc17_4, fc17_5, fc17_6, fc17_7, fc17_8, cast_lit, toNat_lit, Int.reduceAdd, Int.reduceSub, Int.reduceMul,
                Int.reduceNeg, Int.reducePow, Nat.reducePow, Int.reduceToNat, Nat.reduceSub, Nat.mul_one, Int.toNat_zero, prod_eta, List.nil_append, List.cons_append,
                List.append_nil, Int.le_refl, Nat.le_refl, true_implies, take_all, vconv, vmm, vidxA, viaddrA, iaddr_sl, iaddr_lsl, getE, vfield, vlen, fillC, fillE, List.replicate,
                elemsOf, List.length_map, f2iK_eq, bits_i64, bits_i32, bits_u64, bits_u32, bits_u8, e_mov, g_mov, e_pick, g_pick, e_bin, g_bin, e_un, g_un, e_conv, g_conv, e_call,
                g_call, e_mm, g_mm, g_impl_isPositive, g_impl_IsFinite, g_impl_wideAngle, g_math_Sqrt, dF32_map, dF64_map, dI64_map, dU8_map, dBool_map, dStr_map, decL, dF32, dF64,
                dI64, dU8, dBool, dStr, ↓b_pick, ePk_true, ePk_false]
      repeat' (first
        | ((first | (refine eGI_of (fun h => ?_) (fun h => ?_)) | (refine eCc_of (fun h => ?_) (fun h => ?_)) | (refine ePk_of (fun h => ?_) (fun h => ?_))) <;> (try simp only [Bool.not_eq_true', Bool.not_eq_false'] at h) <;> (try simp only [h, reduceCtorEq, Bool.not_eq_true', decide_eq_false_iff_not, Bool.not_true, Bool.not_false, Bool.false_or, Bool.true_or, Bool.true_and, Bool.false_and, Bool.and_eq_true, Bool.or_eq_true, if_true, if_false, reduceIte, Bool.false_eq_true, and_true, true_and, false_or, or_false, decide_eq_true_eq, not_false_eq_true, not_true_eq_false] at hp) <;> (try (have h2 := h; simp only [decide_eq_true_eq, decide_eq_false_iff_not] at h2; (first | (replace h2 := eq_false h2) | (replace h2 := eq_true h2)); simp only [h2, if_true, if_false, false_or, true_or, or_true, or_false, and_true, true_and, not_false_eq_true, not_true_eq_false] at hp)) <;> simp only [h,
          hp, eA_seq, eA_reg, eA_ret, eA_skip, eA_cond, eA_block, eA_exit, eCc_true, eCc_false, Kq_normal, Kq_ret, Kq_exit, Kb_normal, Kb_exit, Kb_ret, Kreg_eq, eI_nil, bindSt_some,
                bindSt_none, bindSt_ite, eR_eq, eGI_tt, eGI_ff, eGI_tf, eGI_ft, eop, vop, ev_t, ev_c, ev_f, Option.map, put_some, put_none, set_eq, setH_eq, get_eq, hp_eq,
                keep_cons, keep_nil, lk_cons, lk_nil, startSt, envOf, reduceIte, Nat.reduceEqDiff, Nat.reduceAdd, Nat.zero_add, Nat.add_zero, Nat.reduceMul, Nat.reduceLT,
                Nat.reduceLeDiff, bop, uop, intop, fltop, convop, true_or, or_true, Bool.false_eq_true, ret_ok, ret_normal, outV, rvV, rvs, ex_some, pureV, pureX, pureX.pure1',
                pure1, Bool.true_and, Bool.false_and, Bool.and_true, Bool.and_false, Option.isNone_none, AV.cells, AV.one, storable, laid, refless, refless1, List.all_cons,
                List.all_nil, List.length_cons, List.length_nil, List.getElem?_cons_zero, List.getElem?_cons_succ, List.set_cons_zero, List.set_cons_succ, List.set_nil,
                List.map_cons, List.map_nil, vload, loadC, storeC, vnil, vfaddr, vextract, callTo, List.mapM_cons, List.mapM_nil, Option.pure_def, Option.bind_eq_bind,
                Option.bind_some, tabOf_cons, flatT, flatE, flatC, and_self, and_true, true_and, implies_true, forall_const, not_true_eq_false, not_false_eq_true, false_implies,
                List.take_succ_cons, List.drop_succ_cons, List.take_zero, List.drop_zero, Bool.not_true, Bool.not_false, beq_self_eq_true, decide_true, decide_false, eq_self,
                Int.reduceEq, Int.reduceLE, Int.reduceLT, Bool.not_not, Bool.true_or, Bool.or_true, Bool.false_or, Bool.or_false, if_true, if_false, List.getElem?_nil, Kl_normal,
                Kl_exit, Kl_ret, fc17_0, fc17_1, fc17_2, fc17_3, fc17_4, fc17_5, fc17_6, fc17_7, fc17_8, cast_lit, toNat_lit, Int.reduceAdd, Int.reduceSub, Int.reduceMul,
                Int.reduceNeg, Int.reducePow, Nat.reducePow, Int.reduceToNat, Nat.reduceSub, Nat.mul_one, Int.toNat_zero, prod_eta, List.nil_append, List.cons_append,
                List.append_nil, Int.le_refl, Nat.le_refl, true_implies, take_all, vconv, vmm, vidxA, viaddrA, iaddr_sl, iaddr_lsl, getE, vfield, vlen, fillC, fillE, List.replicate,
                elemsOf, List.length_map, f2iK_eq, bits_i64, bits_i32, bits_u64, bits_u32, bits_u8, e_mov, g_mov, e_pick, g_pick, e_bin, g_bin, e_un, g_un, e_conv, g_conv, e_call,
                g_call, e_mm, g_mm, g_impl_isPositive, g_impl_IsFinite, g_impl_wideAngle, g_math_Sqrt, dF32_map, dF64_map, dI64_map, dU8_map, dBool_map, dStr_map, decL, dF32, dF64,
                dI64, dU8, dBool, dStr, ↓b_pick, ePk_true, ePk_false]))
      all_goals (try simp only [*, m_impl_BendOf, v_impl_BendOf_0, v_impl_BendOf_1, v_impl_BendOf_2, Bool.and_true, Bool.true_and, Bool.and_false, Bool.false_and, Bool.or_true, Bool.true_or, Bool.or_false, Bool.false_or, Bool.not_true, Bool.not_false, Bool.false_eq_true, if_true, if_false, reduceIte, decide_true, decide_false])
      all_goals (try (simp_all; done))
    · cases h
  · cases h
def m_laws_sameFloat (x0 : Nat) (x1 : Nat) : Bool := (if (feq .f64 x0 x0) = true then (if (feq .f64 x1 x1) = true then (if (feq .f64 x0 0) = true then (if (feq .f64 x1 0) = true
      then ((flt .f64 0 (fdiv .f64 4607182418800017408 x0)) == (flt .f64 0 (fdiv .f64 4607182418800017408 x1))) else (feq .f64 x0 x1)) else (feq .f64 x0 x1)) else false) else (!(feq
      .f64 x1 x1)))
def g_laws_sameFloat : List AV → Option AV
  | [.flt .f64 y0, .flt .f64 y1] => some (.bool (m_laws_sameFloat y0 y1))
  | _ => none
def ic24 : ICode := (.seq (.reg [⟨(some 4), none, (.mov (.c (.bool false)))⟩] [0, 1]) (.seq (.seq (.reg [⟨(some 5), none, (.mov (.t 0))⟩, ⟨(some 6), none, (.mov (.t 0))⟩, ⟨(some 7),
      none, (.bin .neq false (.t 5) (.t 6))⟩, ⟨(some 8), none, (.mov (.t 7))⟩, ⟨(some 9), (some (8, false)), (.mov (.t 1))⟩, ⟨(some 10), (some (8, false)), (.mov (.t 1))⟩, ⟨(some
      11), (some (8, false)), (.bin .neq false (.t 9) (.t 10))⟩, ⟨(some 12), none, (.pick (.t 8) (.c (.bool true)) (.t 11))⟩] [0, 1, 12]) (.cond (.t 12) (.seq (.reg [⟨(some 13),
      none, (.mov (.t 0))⟩, ⟨(some 14), none, (.mov (.t 0))⟩, ⟨(some 15), none, (.bin .neq false (.t 13) (.t 14))⟩, ⟨(some 16), none, (.mov (.t 15))⟩, ⟨(some 17), (some (16, true)),
      (.mov (.t 1))⟩, ⟨(some 18), (some (16, true)), (.mov (.t 1))⟩, ⟨(some 19), (some (16, true)), (.bin .neq false (.t 17) (.t 18))⟩, ⟨(some 20), none, (.pick (.t 16) (.t 19) (.c
      (.bool false)))⟩, ⟨(some 4), none, (.mov (.t 20))⟩] [4]) .ret) .skip)) (.seq (.seq (.reg [⟨(some 21), none, (.mov (.t 0))⟩, ⟨(some 22), none, (.bin .eql false (.t 21) (.c
      (.flt .f64 0)))⟩, ⟨(some 23), none, (.mov (.t 22))⟩, ⟨(some 24), (some (23, true)), (.mov (.t 1))⟩, ⟨(some 25), (some (23, true)), (.bin .eql false (.t 24) (.c (.flt .f64
      0)))⟩, ⟨(some 26), none, (.pick (.t 23) (.t 25) (.c (.bool false)))⟩] [0, 1, 26]) (.cond (.t 26) (.seq (.reg [⟨(some 27), none, (.mov (.t 0))⟩, ⟨(some 28), none, (.bin .quo
      false (.c (.flt .f64 4607182418800017408)) (.t 27))⟩, ⟨(some 29), none, (.bin .gtr false (.t 28) (.c (.flt .f64 0)))⟩, ⟨(some 30), none, (.mov (.t 1))⟩, ⟨(some 31), none,
      (.bin .quo false (.c (.flt .f64 4607182418800017408)) (.t 30))⟩, ⟨(some 32), none, (.bin .gtr false (.t 31) (.c (.flt .f64 0)))⟩, ⟨(some 33), none, (.bin .eql true (.t 29) (.t
      32))⟩, ⟨(some 4), none, (.mov (.t 33))⟩] [4]) .ret) .skip)) (.seq (.reg [⟨(some 34), none, (.mov (.t 0))⟩, ⟨(some 35), none, (.mov (.t 1))⟩, ⟨(some 36), none, (.bin .eql false
      (.t 34) (.t 35))⟩, ⟨(some 4), none, (.mov (.t 36))⟩] [4]) .ret))))
def cp24 : CP := { n := 37, kp := [[0, 1], [0, 1, 12], [4], [0, 1, 26], [4], [4]] }
theorem fc24_0 : IntKind.wrap .i64 (-1) = (-1) := by decide
theorem fc24_1 : IntKind.wrap .i64 1 = 1 := by decide
theorem fc24_2 : IntKind.wrap .i64 11 = 11 := by decide
theorem fc24_3 : IntKind.wrap .i64 13 = 13 := by decide
theorem fc24_4 : IntKind.wrap .i64 2 = 2 := by decide
theorem fc24_5 : IntKind.wrap .i64 3 = 3 := by decide
theorem fc24_6 : IntKind.wrap .i64 5 = 5 := by decide
theorem fc24_7 : IntKind.wrap .i64 7 = 7 := by decide
theorem fc24_8 : IntKind.wrap .i64 9 = 9 := by decide
theorem s24 : ∀ vs r, g_laws_sameFloat vs = some r → Says Try.prog 24 vs r := by
  intro vs r h
  unfold g_laws_sameFloat at h
  split at h
  · rename_i y0 y1
    cases h
    refine spec_of (tab := tabOf []) (cp := cp24) (ic := ic24) (rvl := [(.t 4)]) hm tabOk_nil Try.func24 rfl rfl rfl (by kernel_rfl) rfl (Nat.le_of_ble_eq_true rfl) ?_
    show eA _ _ _ _
    unfold ic24
    simp only [
        eA_seq, eA_reg, eA_ret, eA_skip, eA_cond, eA_block, eA_exit, eCc_true, eCc_false, Kq_normal, Kq_ret, Kq_exit, Kb_normal, Kb_exit, Kb_ret, Kreg_eq, eI_nil, bindSt_some,
              bindSt_none, bindSt_ite, eR_eq, eGI_tt, eGI_ff, eGI_tf, eGI_ft, eop, vop, ev_t, ev_c, ev_f, Option.map, put_some, put_none, set_eq, setH_eq, get_eq, hp_eq, keep_cons,
              keep_nil, lk_cons, lk_nil, startSt, envOf, reduceIte, Nat.reduceEqDiff, Nat.reduceAdd, Nat.zero_add, Nat.add_zero, Nat.reduceMul, Nat.reduceLT, Nat.reduceLeDiff, bop,
              uop, intop, fltop, convop, true_or, or_true, Bool.false_eq_true, ret_ok, ret_normal, outV, rvV, rvs, ex_some, pureV, pureX, pureX.pure1', pure1, Bool.true_and,
              Bool.false_and, Bool.and_true, Bool.and_false, Option.isNone_none, AV.cells, AV.one, storable, laid, refless, refless1, List.all_cons, List.all_nil, List.length_cons,
              List.length_nil, List.getElem?_cons_zero, List.getElem?_cons_succ, List.set_cons_zero, List.set_cons_succ, List.set_nil, List.map_cons, List.map_nil, vload, loadC,
              storeC, vnil, vfaddr, vextract, callTo, List.mapM_cons, List.mapM_nil, Option.pure_def, Option.bind_eq_bind, Option.bind_some, tabOf_cons, flatT, flatE, flatC,
              and_self, and_true, true_and, implies_true, forall_const, not_true_eq_false, not_false_eq_true, false_implies, List.take_succ_cons, List.drop_succ_cons,
              List.take_zero, List.drop_zero, Bool.not_true, Bool.not_false, beq_self_eq_true, decide_true, decide_false, eq_self, Int.reduceEq, Int.reduceLE, Int.reduceLT,
              Bool.not_not, Bool.true_or, Bool.or_true, Bool.false_or, Bool.or_false, if_true, if_false, List.getElem?_nil, Kl_normal, Kl_exit, Kl_ret, fc24_0, fc24_1, fc24_2,
              fc24_3, fc24_4, fc24_5, fc24_6, fc24_7, fc24_8, cast_lit, toNat_lit, Int.reduceAdd, Int.reduceSub, Int.reduceMul, Int.reduceNeg, Int.reducePow, Nat.reducePow,
              Int.reduceToNat, Nat.reduceSub, Nat.mul_one, Int.toNat_zero, prod_eta, List.nil_append, List.cons_append, List.append_nil, Int.le_refl, Nat.le_refl, true_implies,
              take_all, vconv, vmm, vidxA, viaddrA, iaddr_sl, iaddr_lsl, getE, vfield, vlen, fillC, fillE, List.replicate, elemsOf, List.length_map, f2iK_eq, bits_i64, bits_i32,
              bits_u64, bits_u32, bits_u8, e_mov, g_mov, e_pick, g_pick, e_bin, g_bin, dF32_map, dF64_map, dI64_map, dU8_map, dBool_map, dStr_map, decL, dF32, dF64, dI64, dU8,
              dBool, dStr, ↓b_pick, ePk_true, ePk_false]
    repeat' (first
      | ((first | (refine eGI_of (fun h => ?_) (fun h => ?_)) | (refine eCc_of (fun h => ?_) (fun h => ?_)) | (refine ePk_of (fun h => ?_) (fun h => ?_))) <;> (try simp only [Bool.not_eq_true', Bool.not_eq_false'] at h) <;> simp only [h,
        eA_seq, eA_reg, eA_ret, eA_skip, eA_cond, eA_block, eA_exit, eCc_true, eCc_false, Kq_normal, Kq_ret, Kq_exit, Kb_normal, Kb_exit, Kb_ret, Kreg_eq, eI_nil, bindSt_some,
              bindSt_none, bindSt_ite, eR_eq, eGI_tt, eGI_ff, eGI_tf, eGI_ft, eop, vop, ev_t, ev_c, ev_f, Option.map, put_some, put_none, set_eq, setH_eq, get_eq, hp_eq, keep_cons,
              keep_nil, lk_cons, lk_nil, startSt, envOf, reduceIte, Nat.reduceEqDiff, Nat.reduceAdd, Nat.zero_add, Nat.add_zero, Nat.reduceMul, Nat.reduceLT, Nat.reduceLeDiff, bop,
              uop, intop, fltop, convop, true_or, or_true, Bool.false_eq_true, ret_ok, ret_normal, outV, rvV, rvs, ex_some, pureV, pureX, pureX.pure1', pure1, Bool.true_and,
              Bool.false_and, Bool.and_true, Bool.and_false, Option.isNone_none, AV.cells, AV.one, storable, laid, refless, refless1, List.all_cons, List.all_nil, List.length_cons,
              List.length_nil, List.getElem?_cons_zero, List.getElem?_cons_succ, List.set_cons_zero, List.set_cons_succ, List.set_nil, List.map_cons, List.map_nil, vload, loadC,
              storeC, vnil, vfaddr, vextract, callTo, List.mapM_cons, List.mapM_nil, Option.pure_def, Option.bind_eq_bind, Option.bind_some, tabOf_cons, flatT, flatE, flatC,
              and_self, and_true, true_and, implies_true, forall_const, not_true_eq_false, not_false_eq_true, false_implies, List.take_succ_cons, List.drop_succ_cons,
              List.take_zero, List.drop_zero, Bool.not_true, Bool.not_false, beq_self_eq_true, decide_true, decide_false, eq_self, Int.reduceEq, Int.reduceLE, Int.reduceLT,
              Bool.not_not, Bool.true_or, Bool.or_true, Bool.false_or, Bool.or_false, if_true, if_false, List.getElem?_nil, Kl_normal, Kl_exit, Kl_ret, fc24_0, fc24_1, fc24_2,
              fc24_3, fc24_4, fc24_5, fc24_6, fc24_7, fc24_8, cast_lit, toNat_lit, Int.reduceAdd, Int.reduceSub, Int.reduceMul, Int.reduceNeg, Int.reducePow, Nat.reducePow,
              Int.reduceToNat, Nat.reduceSub, Nat.mul_one, Int.toNat_zero, prod_eta, List.nil_append, List.cons_append, List.append_nil, Int.le_refl, Nat.le_refl, true_implies,
              take_all, vconv, vmm, vidxA, viaddrA, iaddr_sl, iaddr_lsl, getE, vfield, vlen, fillC, fillE, List.replicate, elemsOf, List.length_map, f2iK_eq, bits_i64, bits_i32,
              bits_u64, bits_u32, bits_u8, e_mov, g_mov, e_pick, g_pick, e_bin, g_bin, dF32_map, dF64_map, dI64_map, dU8_map, dBool_map, dStr_map, decL, dF32, dF64, dI64, dU8,
              dBool, dStr, ↓b_pick, ePk_true, ePk_false]))
    all_goals (try simp only [*, m_laws_sameFloat, Bool.and_true, Bool.true_and, Bool.and_false, Bool.false_and, Bool.or_true, Bool.true_or, Bool.or_false, Bool.false_or, Bool.not_true, Bool.not_false, Bool.false_eq_true, if_true, if_false, reduceIte, decide_true, decide_false])
    all_goals (try (simp_all; done))
  · cases h
def m_laws_FnExactBendOf (x0 : Nat) (x1 : Nat) (x2 : Nat) : Bool := (if (m_laws_sameFloat (widen (m_impl_BendOf x0 x1 x2).1) (widen (m_spec_BendOf x0 x1 x2).1)) = true then (if
      ((m_impl_BendOf x0 x1 x2).2 == (m_spec_BendOf x0 x1 x2).2) = true then true else false) else false)
def p_laws_FnExactBendOf (x0 : Nat) (x1 : Nat) (x2 : Nat) : Bool := ((p_spec_BendOf x0 x1 x2) && (p_impl_BendOf x0 x1 x2))
def g_laws_FnExactBendOf : List AV → Option AV
  | [.flt .f32 y0, .flt .f32 y1, .flt .f32 y2] => if p_laws_FnExactBendOf y0 y1 y2 = true then some (.bool (m_laws_FnExactBendOf y0 y1
      y2)) else none
  | _ => none
def ic6 : ICode := (.seq (.reg [⟨(some 6), none, (.mov (.c (.bool false)))⟩] [0, 1, 2]) (.seq (.reg [⟨(some 12), none, (.mov (.t 0))⟩, ⟨(some 13), none, (.mov (.t 1))⟩, ⟨(some 14),
      none, (.mov (.t 2))⟩, ⟨(some 15), none, (.call (.fn 25) [(.t 12), (.t 13), (.t 14)] [])⟩, ⟨(some 11), none, (.mov (.t 15))⟩, ⟨(some 16), none, (.extract (.t 11) 0)⟩, ⟨(some
      17), none, (.extract (.t 11) 1)⟩, ⟨(some 7), none, (.mov (.t 16))⟩, ⟨(some 8), none, (.mov (.t 17))⟩] [0, 1, 2, 7, 8]) (.seq (.reg [⟨(some 19), none, (.mov (.t 0))⟩, ⟨(some
      20), none, (.mov (.t 1))⟩, ⟨(some 21), none, (.mov (.t 2))⟩, ⟨(some 22), none, (.call (.fn 17) [(.t 19), (.t 20), (.t 21)] [])⟩, ⟨(some 18), none, (.mov (.t 22))⟩, ⟨(some 23),
      none, (.extract (.t 18) 0)⟩, ⟨(some 24), none, (.extract (.t 18) 1)⟩, ⟨(some 9), none, (.mov (.t 23))⟩, ⟨(some 10), none, (.mov (.t 24))⟩] [7, 8, 9, 10]) (.seq (.seq (.reg
      [⟨(some 25), none, (.mov (.t 9))⟩, ⟨(some 26), none, (.conv (.flt .f64) (.t 25))⟩, ⟨(some 27), none, (.mov (.t 7))⟩, ⟨(some 28), none, (.conv (.flt .f64) (.t 27))⟩, ⟨(some
      29), none, (.call (.fn 24) [(.t 26), (.t 28)] [])⟩, ⟨(some 30), none, (.un .not (.t 29))⟩, ⟨(some 31), none, (.mov (.t 30))⟩, ⟨(some 32), (some (31, false)), (.mov (.t 10))⟩,
      ⟨(some 33), (some (31, false)), (.mov (.t 8))⟩, ⟨(some 34), (some (31, false)), (.bin .neq true (.t 32) (.t 33))⟩, ⟨(some 35), none, (.pick (.t 31) (.c (.bool true)) (.t
      34))⟩] [35]) (.cond (.t 35) (.seq (.reg [⟨(some 6), none, (.mov (.c (.bool false)))⟩] [6]) .ret) .skip)) (.seq (.reg [⟨(some 6), none, (.mov (.c (.bool true)))⟩] [6])
      .ret)))))
def cp6 : CP := { n := 36, kp := [[0, 1, 2], [0, 1, 2, 7, 8], [7, 8, 9, 10], [35], [6], [6]] }
theorem fc6_0 : IntKind.wrap .i64 (-1) = (-1) := by decide
theorem fc6_1 : IntKind.wrap .i64 1 = 1 := by decide
theorem fc6_2 : IntKind.wrap .i64 11 = 11 := by decide
theorem fc6_3 : IntKind.wrap .i64 13 = 13 := by decide
theorem fc6_4 : IntKind.wrap .i64 2 = 2 := by decide
theorem fc6_5 : IntKind.wrap .i64 3 = 3 := by decide
theorem fc6_6 : IntKind.wrap .i64 5 = 5 := by decide
theorem fc6_7 : IntKind.wrap .i64 7 = 7 := by decide
theorem fc6_8 : IntKind.wrap .i64 9 = 9 := by decide
theorem s6 : ∀ vs r, g_laws_FnExactBendOf vs = some r → Says Try.prog 6 vs r := by
  intro vs r h
  unfold g_laws_FnExactBendOf at h
  split at h
  · rename_i y0 y1 y2
    split at h
    · rename_i hp
      cases h
      refine spec_of (tab := tabOf [(17, g_impl_BendOf), (24, g_laws_sameFloat), (25, g_spec_BendOf)]) (cp := cp6) (ic := ic6) (rvl := [(.t 6)]) hm (tabOk_cons s17 (tabOk_cons s24 (tabOk_cons s25 tabOk_nil))) Try.func6 rfl rfl rfl (by kernel_rfl) rfl (Nat.le_of_ble_eq_true rfl) ?_
      show eA _ _ _ _
      unfold ic6
      simp only [p_laws_FnExactBendOf, Bool.and_eq_true, Bool.or_eq_true, decide_eq_true_eq, Bool.not_eq_true', decide_eq_false_iff_not] at hp
      simp only [
          hp, eA_seq, eA_reg, eA_ret, eA_skip, eA_cond, eA_block, eA_exit, eCc_true, eCc_false, Kq_normal, Kq_ret, Kq_exit, Kb_normal, Kb_exit, Kb_ret, Kreg_eq, eI_nil, bindSt_some,
                bindSt_none, bindSt_ite, eR_eq, eGI_tt, eGI_ff, eGI_tf, eGI_ft, eop, vop, ev_t, ev_c, ev_f, Option.map, put_some, put_none, set_eq, setH_eq, get_eq, hp_eq,
                keep_cons, keep_nil, lk_cons, lk_nil, startSt, envOf, reduceIte, Nat.reduceEqDiff, Nat.reduceAdd, Nat.zero_add, Nat.add_zero, Nat.reduceMul, Nat.reduceLT,
                Nat.reduceLeDiff, bop, uop, intop, fltop, convop, true_or, or_true, Bool.false_eq_true, ret_ok, ret_normal, outV, rvV, rvs, ex_some, pureV, pureX, pureX.pure1',
                pure1, Bool.true_and, Bool.false_and, Bool.and_true, Bool.and_false, Option.isNone_none, AV.cells, AV.one, storable, laid, refless, refless1, List.all_cons,
                List.all_nil, List.length_cons, List.length_nil, List.getElem?_cons_zero, List.getElem?_cons_succ, List.set_cons_zero, List.set_cons_succ, List.set_nil,
                List.map_cons, List.map_nil, vload, loadC, storeC, vnil, vfaddr, vextract, callTo, List.mapM_cons, List.mapM_nil, Option.pure_def, Option.bind_eq_bind,
                Option.bind_some, tabOf_cons, flatT, flatE, flatC, and_self, and_true, true_and, implies_true, forall_const, not_true_eq_false, not_false_eq_true, false_implies,
                List.take_succ_cons, List.drop_succ_cons, List.take_zero, List.drop_zero, Bool.not_true, Bool.not_false, beq_self_eq_true, decide_true, decide_false, eq_self,
                Int.reduceEq, Int.reduceLE, Int.reduceLT, Bool.not_not, Bool.true_or, Bool.or_true, Bool.false_or, Bool.or_false, if_true, if_false, List.getElem?_nil, Kl_normal,
                Kl_exit, Kl_ret, fc6_0, fc6_1, fc6_2, fc6_3, fc6_4, fc6_5, fc6_6, fc6_7, fc6_8, cast_lit, toNat_lit, Int.reduceAdd, Int.reduceSub, Int.reduceMul, Int.reduceNeg,
                Int.reducePow, Nat.reducePow, Int.reduceToNat, Nat.reduceSub, Nat.mul_one, Int.toNat_zero, prod_eta, List.nil_append, List.cons_append, List.append_nil, Int.le_refl,
                Nat.le_refl, true_implies, take_all, vconv, vmm, vidxA, viaddrA, iaddr_sl, iaddr_lsl, getE, vfield, vlen, fillC, fillE, List.replicate, elemsOf, List.length_map,
                f2iK_eq, bits_i64, bits_i32, bits_u64, bits_u32, bits_u8, e_mov, g_mov, e_pick, g_pick, e_bin, g_bin, e_un, g_un, e_conv, g_conv, e_extract, g_extract, e_call,
                g_call, g_impl_BendOf, g_laws_sameFloat, g_spec_BendOf, dF32_map, dF64_map, dI64_map, dU8_map, dBool_map, dStr_map, decL, dF32, dF64, dI64, dU8, dBool, dStr,
                ↓b_pick, ePk_true, ePk_false]
      repeat' (first
        | ((first | (refine eGI_of (fun h => ?_) (fun h => ?_)) | (refine eCc_of (fun h => ?_) (fun h => ?_)) | (refine ePk_of (fun h => ?_) (fun h => ?_))) <;> (try simp only [Bool.not_eq_true', Bool.not_eq_false'] at h) <;> (try simp only [h, reduceCtorEq, Bool.not_eq_true', decide_eq_false_iff_not, Bool.not_true, Bool.not_false, Bool.false_or, Bool.true_or, Bool.true_and, Bool.false_and, Bool.and_eq_true, Bool.or_eq_true, if_true, if_false, reduceIte, Bool.false_eq_true, and_true, true_and, false_or, or_false, decide_eq_true_eq, not_false_eq_true, not_true_eq_false] at hp) <;> (try (have h2 := h; simp only [decide_eq_true_eq, decide_eq_false_iff_not] at h2; (first | (replace h2 := eq_false h2) | (replace h2 := eq_true h2)); simp only [h2, if_true, if_false, false_or, true_or, or_true, or_false, and_true, true_and, not_false_eq_true, not_true_eq_false] at hp)) <;> simp only [h,
          hp, eA_seq, eA_reg, eA_ret, eA_skip, eA_cond, eA_block, eA_exit, eCc_true, eCc_false, Kq_normal, Kq_ret, Kq_exit, Kb_normal, Kb_exit, Kb_ret, Kreg_eq, eI_nil, bindSt_some,
                bindSt_none, bindSt_ite, eR_eq, eGI_tt, eGI_ff, eGI_tf, eGI_ft, eop, vop, ev_t, ev_c, ev_f, Option.map, put_some, put_none, set_eq, setH_eq, get_eq, hp_eq,
                keep_cons, keep_nil, lk_cons, lk_nil, startSt, envOf, reduceIte, Nat.reduceEqDiff, Nat.reduceAdd, Nat.zero_add, Nat.add_zero, Nat.reduceMul, Nat.reduceLT,
                Nat.reduceLeDiff, bop, uop, intop, fltop, convop, true_or, or_true, Bool.false_eq_true, ret_ok, ret_normal, outV, rvV, rvs, ex_some, pureV, pureX, pureX.pure1',
                pure1, Bool.true_and, Bool.false_and, Bool.and_true, Bool.and_false, Option.isNone_none, AV.cells, AV.one, storable, laid, refless, refless1, List.all_cons,
                List.all_nil, List.length_cons, List.length_nil, List.getElem?_cons_zero, List.getElem?_cons_succ, List.set_cons_zero, List.set_cons_succ, List.set_nil,
                List.map_cons, List.map_nil, vload, loadC, storeC, vnil, vfaddr, vextract, callTo, List.mapM_cons, List.mapM_nil, Option.pure_def, Option.bind_eq_bind,
                Option.bind_some, tabOf_cons, flatT, flatE, flatC, and_self, and_true, true_and, implies_true, forall_const, not_true_eq_false, not_false_eq_true, false_implies,
                List.take_succ_cons, List.drop_succ_cons, List.take_zero, List.drop_zero, Bool.not_true, Bool.not_false, beq_self_eq_true, decide_true, decide_false, eq_self,
                Int.reduceEq, Int.reduceLE, Int.reduceLT, Bool.not_not, Bool.true_or, Bool.or_true, Bool.false_or, Bool.or_false, if_true, if_false, List.getElem?_nil, Kl_normal,
                Kl_exit, Kl_ret, fc6_0, fc6_1, fc6_2, fc6_3, fc6_4, fc6_5, fc6_6, fc6_7, fc6_8, cast_lit, toNat_lit, Int.reduceAdd, Int.reduceSub, Int.reduceMul, Int.reduceNeg,
                Int.reducePow, Nat.reducePow, Int.reduceToNat, Nat.reduceSub, Nat.mul_one, Int.toNat_zero, prod_eta, List.nil_append, List.cons_append, List.append_nil, Int.le_refl,
                Nat.le_refl, true_implies, take_all, vconv, vmm, vidxA, viaddrA, iaddr_sl, iaddr_lsl, getE, vfield, vlen, fillC, fillE, List.replicate, elemsOf, List.length_map,
                f2iK_eq, bits_i64, bits_i32, bits_u64, bits_u32, bits_u8, e_mov, g_mov, e_pick, g_pick, e_bin, g_bin, e_un, g_un, e_conv, g_conv, e_extract, g_extract, e_call,
                g_call, g_impl_BendOf, g_laws_sameFloat, g_spec_BendOf, dF32_map, dF64_map, dI64_map, dU8_map, dBool_map, dStr_map, decL, dF32, dF64, dI64, dU8, dBool, dStr,
                ↓b_pick, ePk_true, ePk_false]))
      all_goals (try simp only [*, m_laws_FnExactBendOf, Bool.and_true, Bool.true_and, Bool.and_false, Bool.false_and, Bool.or_true, Bool.true_or, Bool.or_false, Bool.false_or, Bool.not_true, Bool.not_false, Bool.false_eq_true, if_true, if_false, reduceIte, decide_true, decide_false])
      all_goals (try (simp_all; done))
    · cases h
  · cases h
end Go.Proofs
namespace Go.Proofs
open Go.Ab
theorem sameFloat_refl (x : Nat) : m_laws_sameFloat x x = true := by
  unfold m_laws_sameFloat
  by_cases h : feq .f64 x x = true
  · simp [h]
  · simp [h]
end Go.Proofs
namespace Go.Proofs
open Go.Ab Ieee
/-- the bound of the angle of two numbers that are not both zero -/
theorem wide_bd {y x : Nat} {sy sx : Bool} {vy vx : Nat} (hy : Ex FloatKind.f64.format sy y vy) (hx : Ex FloatKind.f64.format sx x vx) (h0 : vy ≠ 0 ∨ vx ≠ 0) : Bd (m_impl_wideAngle y x) 20 := by
  have ab : ∀ {c : Nat} {s : Bool} {v : Nat}, Ex FloatKind.f64.format s c v → Ex FloatKind.f64.format false (fabs c) v := by
    intro c s v h
    obtain ⟨m, e, h1, h2, h3⟩ := h
    exact ⟨m, e, fabs_number h1, h2, h3⟩
  have ha := ab hy
  have hb := ab hx
  have ho := ford_ex hb ha
  have t0 : Bd (if (flt .f64 (fabs x) (fabs y)) = true then (fdiv .f64 (fabs x) (fabs y)) else (fdiv .f64 (fabs y) (fabs x))) 0 := by
    have z : ∀ v : Nat, sg false v = (v : Int) := fun _ => rfl
    rw [z, z] at ho
    by_cases h : flt .f64 (fabs x) (fabs y) = true
    · rw [if_pos h]
      unfold flt at h
      rw [ho] at h
      have h5 : compare (vx : Int) (vy : Int) = .lt := by simpa using h
      have h6 := Int.compare_eq_lt.1 h5
      exact bd_ratio hb ha (by omega) (by omega)
    · rw [if_neg h]
      have h5 : ¬ (vx : Int) < (vy : Int) := by
        intro h6
        apply h
        unfold flt
        rw [ho, Int.compare_eq_lt.2 h6]; rfl
      exact bd_ratio ha hb (by omega) (by omega)
  have t1 : Bd (v_impl_wideAngle_1 y x) 0 := bd_half t0
  have t2 : Bd (v_impl_wideAngle_2 y x) 0 := bd_half t1
  have t3 : Bd (v_impl_wideAngle_3 y x) 0 := bd_half t2
  have u : Bd (fmul .f64 (v_impl_wideAngle_3 y x) (v_impl_wideAngle_3 y x)) 0 := bd_mul t3 t3 (by omega)
  have term : ∀ {p n : Nat} (k : Nat), Bd p n → 1 ≤ k → k < 100 → n + 1 ≤ 900 → Bd (fsub .f64 (fdiv .f64 4607182418800017408 (ofInt .f64 (k : Int))) (fmul .f64 (fmul .f64 (v_impl_wideAngle_3 y x) (v_impl_wideAngle_3 y x)) p)) (n + 1) := by
    intro p n k hp h1 h2 h3
    exact bd_term u hp h1 (by omega) (by omega)
  have mul0 : ∀ {p n : Nat}, Bd p n → n ≤ 900 → Bd (fmul .f64 (fmul .f64 (v_impl_wideAngle_3 y x) (v_impl_wideAngle_3 y x)) p) n := by
    intro p n hp hn
    have := bd_mul u hp (by omega)
    rw [Nat.zero_add] at this; exact this
  have p1 := term 15 bd_zero (by omega) (by omega) (by omega)
  have p2 := term 13 p1 (by omega) (by omega) (by omega)
  have p3 := term 11 p2 (by omega) (by omega) (by omega)
  have p4 := term 9 p3 (by omega) (by omega) (by omega)
  have p5 := term 7 p4 (by omega) (by omega) (by omega)
  have p6 := term 5 p5 (by omega) (by omega) (by omega)
  have p7 := term 3 p6 (by omega) (by omega) (by omega)
  have p8 := term 1 p7 (by omega) (by omega) (by omega)
  have q : Bd (fmul .f64 (v_impl_wideAngle_3 y x) _) _ := bd_mul t3 p8 (by omega)
  have c8 : Bd 4620693217682128896 4 := bd_const (s := false) (m := 2 ^ 52) (e := -49) (by decide) (by decide) (by decide) (by decide)
  have q8 := bd_mul c8 q (by omega)
  have gpi : Ge1 4618760256179416344 := by
    intro W hW
    refine ⟨false, 7074237752028440, -50, by decide, by decide, ?_⟩
    rw [lp64, show (-50 - -1074 : Int).toNat = W - 50 by omega]
    have : (2 : Nat) ^ W = 2 ^ 50 * 2 ^ (W - 50) := by rw [← Nat.pow_add]; exact congrArg (2 ^ ·) (by omega)
    rw [this]
    exact Nat.mul_le_mul_right _ (by decide)
  have r : Bd (v_impl_wideAngle_11 y x) 18 := (bd_div q8 gpi (by omega)).mono (by omega)
  have c14 : Bd 4598175219545276416 18 := bd_const (s := false) (m := 2 ^ 52) (e := -54) (by decide) (by decide) (by decide) (by decide)
  have c12 : Bd 4602678819172646912 19 := bd_const (s := false) (m := 2 ^ 52) (e := -53) (by decide) (by decide) (by decide) (by decide)
  have T : Bd (if (flt .f64 (fabs x) (fabs y)) = true then (fsub .f64 4598175219545276416 (v_impl_wideAngle_11 y x)) else (v_impl_wideAngle_11 y x)) 19 := by
    split
    · exact bd_sub c14 r (by omega)
    · exact r.mono (by omega)
  have T2 : Bd (v_impl_wideAngle_13 y x) 20 := by
    unfold v_impl_wideAngle_13
    split
    · exact bd_sub c12 T (by omega)
    · exact T.mono (by omega)
  unfold m_impl_wideAngle
  split
  · exact bd_neg T2
  · exact T2
end Go.Proofs
namespace Go.Proofs
open Go.Ab Ieee
theorem wide_eq (y x : Nat) : m_spec_l01AngleWide y x = (if (feq .f64 (fsub .f64 y y) 0) = true then (if (feq .f64 (fsub .f64 x x) 0) = true then (if (feq .f64 x 0) = true then (if (feq .f64 y 0) = true then 0 else m_impl_wideAngle y x) else m_impl_wideAngle y x) else m_math_NaN) else m_math_NaN) := rfl
end Go.Proofs
namespace Go.Proofs
open Go.Ab Ieee
theorem fle_not {c : Nat} (h : feq .f32 (fsub .f32 c c) 0 = true) : fle .f32 0 c = !(flt .f32 c 0) := by
  obtain ⟨s, m, e, d⟩ := fin32 h
  have h0 : Ex FloatKind.f32.format false 0 0 := ⟨0, -149, decode_zero32, by decide, by decide⟩
  have o1 := order_ex h0 (ex32 d)
  have o2 := order_ex (ex32 d) h0
  unfold fle flt ford Format.order
  rw [o1, o2]
  have z : sg false 0 = 0 := rfl
  rw [z]
  generalize sg s (m * 2 ^ (e + 149).toNat) = a
  rcases Int.lt_trichotomy 0 a with k | k | k
  · rw [Int.compare_eq_lt.2 k, Int.compare_eq_gt.2 k]; rfl
  · subst k; rfl
  · rw [Int.compare_eq_gt.2 k, Int.compare_eq_lt.2 k]; rfl
theorem op2_lt {g : Datum → Datum → Option Datum} (a b : Nat) : op2 .f64 g a b < 2 ^ 64 := by
  unfold op2
  cases g (FloatKind.f64.format.read a) (FloatKind.f64.format.read b) with
  | none => show nan .f64 < _; decide
  | some d => exact FloatKind.f64.format.write_lt d
theorem bend_ok {x y z : Nat} (hx : feq .f32 (fsub .f32 x x) 0 = true) (px : flt .f32 0 x = true) (hy : feq .f32 (fsub .f32 y y) 0 = true) (py : flt .f32 0 y = true) (hz : feq .f32 (fsub .f32 z z) 0 = true) :
    v_spec_BendOf_2 x y z = v_impl_BendOf_2 x y z ∧ narrowOk (v_impl_BendOf_2 x y z) = true := by
  have b := fun {c : Nat} (h : feq .f32 (fsub .f32 c c) 0 = true) => bd_mul (bd_widen h) (bd_widen h) (by omega)
  have num := bd_sub (bd_add (b hx) (b hy) (by omega)) ((b hz).mono (by omega)) (by omega)
  obtain ⟨s, m, e, rd, md⟩ := den2_ok hx hy px py
  have hk : Nn (v_impl_BendOf_0 x y z) := nn_div num.nn rd md
  have hlt : v_impl_BendOf_0 x y z < 2 ^ 64 := op2_lt _ _
  obtain ⟨c1, sk, vk, xk, bk⟩ := clamp_same hk hlt
  have e0 : v_spec_BendOf_0 x y z = v_impl_BendOf_0 x y z := rfl
  have e1 : m_math_Max 13830554455654793216 (m_math_Min 4607182418800017408 (v_spec_BendOf_0 x y z)) = fmin .f64 (fmax .f64 (v_impl_BendOf_0 x y z) 13830554455654793216) 4607182418800017408 := by rw [e0]; exact c1
  have hklt : fmin .f64 (fmax .f64 (v_impl_BendOf_0 x y z) 13830554455654793216) 4607182418800017408 < 2 ^ 64 := by
    generalize v_impl_BendOf_0 x y z = k at hlt
    have h1 : fmax .f64 k 13830554455654793216 < 2 ^ 64 := by
      unfold fmax; split
      · decide
      · decide
      · exact hlt
      · split
        · decide
        · exact hlt
    generalize fmax .f64 k 13830554455654793216 = j at h1
    unfold fmin; split
    · decide
    · exact h1
    · decide
    · split
      · exact h1
      · decide
  unfold v_spec_BendOf_2 v_impl_BendOf_2 v_spec_BendOf_1 v_impl_BendOf_1
  rw [e1]
  generalize fmin .f64 (fmax .f64 (v_impl_BendOf_0 x y z) 13830554455654793216) 4607182418800017408 = k at *
  have bk0 : Bd k 0 := fun W hW => xk.ms.mg.mono (by rw [Nat.zero_add]; exact bk W hW)
  have bq := bd_mul bk0 bk0 (by omega)
  obtain ⟨d1, d2⟩ := one_less bq (nng_square k)
  have by' : Bd (m_math_Sqrt (fsub .f64 4607182418800017408 (fmul .f64 k k))) 68 := bd_sqrt (d1.mono (by omega)) d2
  obtain ⟨s2, m2, i2, r2⟩ := by'.read
  obtain ⟨vy, xy⟩ := read_ex r2
  have hnz : vy ≠ 0 ∨ vk ≠ 0 := by
    by_cases h : vk = 0
    · left
      subst h
      have hk0 : k = 0 ∨ k = 9223372036854775808 := by
        cases sk
        · exact .inl (ex_unique xk ex_zero64 hklt (by decide))
        · refine .inr (ex_unique xk (⟨0, -1074, by decide, by decide, by decide⟩ : Ex FloatKind.f64.format true 9223372036854775808 0) hklt (by decide))
      have h1 : m_math_Sqrt (fsub .f64 4607182418800017408 (fmul .f64 k k)) = 4607182418800017408 := by
        rcases hk0 with rfl | rfl <;> decide +kernel
      rw [h1] at xy
      rintro rfl
      obtain ⟨ma, ea, ra, _, va⟩ := xy
      have r1 : FloatKind.f64.format.read 4607182418800017408 = .number false (2 ^ 52) (-52) := by decide
      rw [r1] at ra
      cases ra
      rcases Nat.mul_eq_zero.1 va with h | h
      · exact absurd h (by decide)
      · have := Nat.two_pow_pos ((-52 : Int) - FloatKind.f64.format.leastPlace).toNat; omega
    · exact .inr h
  have hw := wide_bd xy xk hnz
  refine ⟨?_, narrowOk_of_bd hw (by omega)⟩
  rw [wide_eq]
  obtain ⟨mk, ek, rk, _, _⟩ := xk
  have f1 := fin64_of_number r2 ⟨vy, xy⟩
  have f2 : feq .f64 (fsub .f64 k k) 0 = true := by
    obtain ⟨v', x'⟩ := read_ex rk
    exact fin64_of_number rk ⟨v', x'⟩
  rw [if_pos f1, if_pos f2]
  have zz : ∀ {c v : Nat} {s : Bool}, Ex FloatKind.f64.format s c v → feq .f64 c 0 = true → v = 0 := by
    intro c v s h hf
    have o := ford_ex h ex_zero64
    unfold feq at hf
    rw [o] at hf
    have h5 : compare (sg s v) (sg false 0) = .eq := by simpa using hf
    have h6 := Int.compare_eq_eq.1 h5
    have z : sg false 0 = 0 := rfl
    rw [z] at h6
    unfold sg at h6; split at h6 <;> omega
  by_cases g1 : feq .f64 k 0 = true
  · rw [if_pos g1]
    by_cases g2 : feq .f64 (m_math_Sqrt (fsub .f64 4607182418800017408 (fmul .f64 k k))) 0 = true
    · exfalso
      rcases hnz with h | h
      · exact h (zz xy g2)
      · exact h (zz ⟨mk, ek, rk, by assumption, by assumption⟩ g1)
    · rw [if_neg g2]
  · rw [if_neg g1]
theorem law_BendOf (x : Nat) (_ : Canon .f32 x) (y : Nat) (_ : Canon .f32 y) (z : Nat) (_ : Canon .f32 z) : g_laws_FnExactBendOf [.flt .f32 x, .flt .f32 y, .flt .f32 z] = some (.bool true) := by
  have key : m_spec_BendOf x y z = m_impl_BendOf x y z ∧ p_spec_BendOf x y z = true ∧ p_impl_BendOf x y z = true := by
    have e1 : ∀ c, m_spec_l04Length c = m_impl_isPositive c := fun _ => rfl
    have e2 : m_spec_l01Finite z = m_impl_IsFinite z := rfl
    unfold m_spec_BendOf m_impl_BendOf p_spec_BendOf p_impl_BendOf p_spec_l01Narrow m_spec_l01Narrow
    rw [e1, e1, e2]
    by_cases hx : m_impl_isPositive x = true
    · by_cases hy : m_impl_isPositive y = true
      · by_cases hz : m_impl_IsFinite z = true
        · have hx' := hx
          have hy' := hy
          unfold m_impl_isPositive at hx' hy'
          obtain ⟨x1, x2⟩ := and_of hx'
          obtain ⟨y1, y2⟩ := and_of hy'
          obtain ⟨k1, k2⟩ := bend_ok x1 x2 y1 y2 hz
          rw [fle_not hz]
          cases hc : flt .f32 z 0 <;> simp [hx, hy, hz, k1, k2]
        · have hz' : m_impl_IsFinite z = false := by simpa using hz
          simp [hx, hy, hz']
      · have hy' : m_impl_isPositive y = false := by simpa using hy
        simp [hx, hy']
    · have hx' : m_impl_isPositive x = false := by simpa using hx
      simp [hx']
  obtain ⟨k1, k2, k3⟩ := key
  have h1 : p_laws_FnExactBendOf x y z = true := by unfold p_laws_FnExactBendOf; rw [k2, k3]; rfl
  have h2 : m_laws_FnExactBendOf x y z = true := by unfold m_laws_FnExactBendOf; rw [k1, sameFloat_refl]; simp
  unfold g_laws_FnExactBendOf
  simp [h1, h2]
end Go.Proofs
