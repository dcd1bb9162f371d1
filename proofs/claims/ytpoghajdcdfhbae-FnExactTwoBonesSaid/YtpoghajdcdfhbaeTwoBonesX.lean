/- What the functions that FnExactTwoBones reaches compute, and that the program's and the reference's answers are the same. No conditions. -/
import Derived.Test.YtpoghajdcdfhbaeFwE
import Derived.Test.YtpoghajdcdfhbaeProg
import Derived.KernelRfl
set_option maxRecDepth 100000
set_option linter.all false
namespace Go.Proofs
open Go.Ab
theorem hm : Try.prog.follows .mixedOrders = true := by kernel_rfl
def m_laws_toVector (x0 : (Nat × Nat × Nat)) : (Nat × Nat × Nat) := (x0.1, x0.2.1, x0.2.2)
def g_laws_toVector : List AV → Option AV
  | [.agg [.flt .f32 y0, .flt .f32 y1, .flt .f32 y2]] => some (AV.agg [(.flt .f32 (m_laws_toVector (y0, y1, y2)).1), (.flt .f32
      (m_laws_toVector (y0, y1, y2)).2.1), (.flt .f32 (m_laws_toVector (y0, y1, y2)).2.2)])
  | _ => none
def ic12 : ICode := (.seq (.reg [⟨(some 1), none, (.box 3 (.t 0))⟩, ⟨(some 2), none, (.alloc (.agg [(.flt .f32 0), (.flt .f32 0), (.flt .f32 0)]))⟩] [1, 2]) (.seq (.reg [⟨(some 3),
      none, (.alloc (.agg [(.flt .f32 0), (.flt .f32 0), (.flt .f32 0)]))⟩] [1, 2, 3]) (.seq (.reg [⟨(some 4), none, (.faddr 0 (.t 1))⟩, ⟨(some 5), none, (.load none (.t 4))⟩,
      ⟨(some 6), none, (.faddr 0 (.t 3))⟩, ⟨none, none, (.store 1 (.t 6) (.t 5))⟩] [1, 2, 3]) (.seq (.reg [⟨(some 7), none, (.faddr 1 (.t 1))⟩, ⟨(some 8), none, (.load none (.t
      7))⟩, ⟨(some 9), none, (.faddr 1 (.t 3))⟩, ⟨none, none, (.store 1 (.t 9) (.t 8))⟩] [1, 2, 3]) (.seq (.reg [⟨(some 10), none, (.faddr 2 (.t 1))⟩, ⟨(some 11), none, (.load none
      (.t 10))⟩, ⟨(some 12), none, (.faddr 2 (.t 3))⟩, ⟨none, none, (.store 1 (.t 12) (.t 11))⟩] [2, 3]) (.seq (.reg [⟨(some 13), none, (.load (some 3) (.t 3))⟩, ⟨none, none,
      (.store 3 (.t 2) (.t 13))⟩] [2]) .ret))))))
def cp12 : CP := { n := 14, kp := [[1, 2], [1, 2, 3], [1, 2, 3], [1, 2, 3], [2, 3], [2]] }
theorem s12 : ∀ vs r, g_laws_toVector vs = some r → Says Try.prog 12 vs r := by
  intro vs r h
  unfold g_laws_toVector at h
  split at h
  · rename_i y0 y1 y2
    cases h
    refine spec_of (tab := tabOf []) (cp := cp12) (ic := ic12) (rvl := [(.c 2 (some 3))]) hm tabOk_nil Try.func12 rfl rfl rfl (by kernel_rfl) rfl (Nat.le_of_ble_eq_true rfl) ?_
    show eA _ _ _ _
    unfold ic12
    simp only [
        eA_seq, eA_reg, eA_ret, eA_skip, eA_cond, eA_block, eA_exit, eCc_true, eCc_false, Kq_normal, Kq_ret, Kq_exit, Kb_normal, Kb_exit, Kb_ret, Kreg_eq, eI_nil, bindSt_some,
              bindSt_none, bindSt_ite, eR_eq, eGI_tt, eGI_ff, eGI_tf, eGI_ft, eop, vop, ev_t, ev_c, ev_f, Option.map, put_some, put_none, set_eq, setH_eq, get_eq, hp_eq, keep_cons,
              keep_nil, lk_cons, lk_nil, startSt, envOf, reduceIte, Nat.reduceEqDiff, Nat.reduceAdd, Nat.zero_add, Nat.add_zero, Nat.reduceMul, Nat.reduceLT, Nat.reduceLeDiff, bop,
              uop, intop, fltop, convop, true_or, or_true, Bool.false_eq_true, ret_ok, ret_normal, outV, rvV, rvs, ex_some, pureV, pureX, pureX.pure1', pure1, Bool.true_and,
              Bool.false_and, Bool.and_true, Bool.and_false, Option.isNone_none, AV.cells, AV.one, storable, laid, refless, refless1, List.all_cons, List.all_nil, List.length_cons,
              List.length_nil, List.getElem?_cons_zero, List.getElem?_cons_succ, List.set_cons_zero, List.set_cons_succ, List.set_nil, List.map_cons, List.map_nil, vload, loadC,
              storeC, vnil, vfaddr, vextract, callTo, List.mapM_cons, List.mapM_nil, Option.pure_def, Option.bind_eq_bind, Option.bind_some, tabOf_cons, flatT, flatE, flatC,
              and_self, and_true, true_and, implies_true, forall_const, not_true_eq_false, not_false_eq_true, false_implies, List.take_succ_cons, List.drop_succ_cons,
              List.take_zero, List.drop_zero, Bool.not_true, Bool.not_false, beq_self_eq_true, decide_true, decide_false, eq_self, Int.reduceEq, Int.reduceLE, Int.reduceLT,
              Bool.not_not, Bool.true_or, Bool.or_true, Bool.false_or, Bool.or_false, if_true, if_false, List.getElem?_nil, Kl_normal, Kl_exit, Kl_ret, bits_i64, cast_lit,
              toNat_lit, Int.reduceAdd, Int.reduceSub, Int.reduceMul, Int.reduceNeg, Int.reducePow, Nat.reducePow, Int.reduceToNat, Nat.reduceSub, Nat.mul_one, Int.toNat_zero,
              prod_eta, List.nil_append, List.cons_append, List.append_nil, vconv, vmm, vidxA, viaddrA, iaddr_sl, iaddr_lsl, getE, vfield, vlen, fillC, fillE, List.replicate,
              elemsOf, List.length_map, f2iK_eq, bits_i64, bits_i32, bits_u64, bits_u32, bits_u8, e_alloc, g_alloc, e_box, g_box, e_load, g_load, e_store, g_store, e_faddr, g_faddr]
    repeat' (first
      | ((first | (refine eGI_of (fun h => ?_) (fun h => ?_)) | (refine eCc_of (fun h => ?_) (fun h => ?_))) <;> (try simp only [Bool.not_eq_true', Bool.not_eq_false'] at h) <;> simp only [h,
        eA_seq, eA_reg, eA_ret, eA_skip, eA_cond, eA_block, eA_exit, eCc_true, eCc_false, Kq_normal, Kq_ret, Kq_exit, Kb_normal, Kb_exit, Kb_ret, Kreg_eq, eI_nil, bindSt_some,
              bindSt_none, bindSt_ite, eR_eq, eGI_tt, eGI_ff, eGI_tf, eGI_ft, eop, vop, ev_t, ev_c, ev_f, Option.map, put_some, put_none, set_eq, setH_eq, get_eq, hp_eq, keep_cons,
              keep_nil, lk_cons, lk_nil, startSt, envOf, reduceIte, Nat.reduceEqDiff, Nat.reduceAdd, Nat.zero_add, Nat.add_zero, Nat.reduceMul, Nat.reduceLT, Nat.reduceLeDiff, bop,
              uop, intop, fltop, convop, true_or, or_true, Bool.false_eq_true, ret_ok, ret_normal, outV, rvV, rvs, ex_some, pureV, pureX, pureX.pure1', pure1, Bool.true_and,
              Bool.false_and, Bool.and_true, Bool.and_false, Option.isNone_none, AV.cells, AV.one, storable, laid, refless, refless1, List.all_cons, List.all_nil, List.length_cons,
              List.length_nil, List.getElem?_cons_zero, List.getElem?_cons_succ, List.set_cons_zero, List.set_cons_succ, List.set_nil, List.map_cons, List.map_nil, vload, loadC,
              storeC, vnil, vfaddr, vextract, callTo, List.mapM_cons, List.mapM_nil, Option.pure_def, Option.bind_eq_bind, Option.bind_some, tabOf_cons, flatT, flatE, flatC,
              and_self, and_true, true_and, implies_true, forall_const, not_true_eq_false, not_false_eq_true, false_implies, List.take_succ_cons, List.drop_succ_cons,
              List.take_zero, List.drop_zero, Bool.not_true, Bool.not_false, beq_self_eq_true, decide_true, decide_false, eq_self, Int.reduceEq, Int.reduceLE, Int.reduceLT,
              Bool.not_not, Bool.true_or, Bool.or_true, Bool.false_or, Bool.or_false, if_true, if_false, List.getElem?_nil, Kl_normal, Kl_exit, Kl_ret, bits_i64, cast_lit,
              toNat_lit, Int.reduceAdd, Int.reduceSub, Int.reduceMul, Int.reduceNeg, Int.reducePow, Nat.reducePow, Int.reduceToNat, Nat.reduceSub, Nat.mul_one, Int.toNat_zero,
              prod_eta, List.nil_append, List.cons_append, List.append_nil, vconv, vmm, vidxA, viaddrA, iaddr_sl, iaddr_lsl, getE, vfield, vlen, fillC, fillE, List.replicate,
              elemsOf, List.length_map, f2iK_eq, bits_i64, bits_i32, bits_u64, bits_u32, bits_u8, e_alloc, g_alloc, e_box, g_box, e_load, g_load, e_store, g_store, e_faddr, g_faddr]))
    all_goals (try simp only [*, m_laws_toVector, Bool.and_true, Bool.true_and, Bool.and_false, Bool.false_and, Bool.or_true, Bool.true_or, Bool.or_false, Bool.false_or, Bool.not_true, Bool.not_false, Bool.false_eq_true, if_true, if_false, reduceIte, decide_true, decide_false])
    all_goals (try (simp_all; done))
  · cases h
def m_spec_l01Inner (x0 : (Nat × Nat × Nat)) (x1 : (Nat × Nat × Nat)) : Nat := (fadd .f32 (fadd .f32 (fmul .f32 x0.1 x1.1) (fmul .f32 x0.2.1 x1.2.1)) (fmul .f32 x0.2.2 x1.2.2))
def g_spec_l01Inner : List AV → Option AV
  | [.agg [.flt .f32 y0, .flt .f32 y1, .flt .f32 y2], .agg [.flt .f32 y3, .flt .f32 y4, .flt .f32 y5]] => some (.flt .f32 (m_spec_l01Inner
      (y0, y1, y2) (y3, y4, y5)))
  | _ => none
def ic40 : ICode := (.seq (.reg [⟨(some 2), none, (.box 3 (.t 0))⟩, ⟨(some 3), none, (.box 3 (.t 1))⟩, ⟨(some 4), none, (.mov (.c (.flt .f32 0)))⟩] [2, 3]) (.seq (.reg [⟨(some 5),
      none, (.faddr 0 (.t 2))⟩, ⟨(some 6), none, (.load none (.t 5))⟩, ⟨(some 7), none, (.faddr 0 (.t 3))⟩, ⟨(some 8), none, (.load none (.t 7))⟩, ⟨(some 9), none, (.bin .mul false
      (.t 6) (.t 8))⟩, ⟨(some 10), none, (.faddr 1 (.t 2))⟩, ⟨(some 11), none, (.load none (.t 10))⟩, ⟨(some 12), none, (.faddr 1 (.t 3))⟩, ⟨(some 13), none, (.load none (.t 12))⟩,
      ⟨(some 14), none, (.bin .mul false (.t 11) (.t 13))⟩, ⟨(some 15), none, (.bin .add false (.t 9) (.t 14))⟩, ⟨(some 16), none, (.faddr 2 (.t 2))⟩, ⟨(some 17), none, (.load none
      (.t 16))⟩, ⟨(some 18), none, (.faddr 2 (.t 3))⟩, ⟨(some 19), none, (.load none (.t 18))⟩, ⟨(some 20), none, (.bin .mul false (.t 17) (.t 19))⟩, ⟨(some 21), none, (.bin .add
      false (.t 15) (.t 20))⟩, ⟨(some 4), none, (.mov (.t 21))⟩] [4]) .ret))
def cp40 : CP := { n := 22, kp := [[2, 3], [4]] }
theorem s40 : ∀ vs r, g_spec_l01Inner vs = some r → Says Try.prog 40 vs r := by
  intro vs r h
  unfold g_spec_l01Inner at h
  split at h
  · rename_i y0 y1 y2 y3 y4 y5
    cases h
    refine spec_of (tab := tabOf []) (cp := cp40) (ic := ic40) (rvl := [(.t 4)]) hm tabOk_nil Try.func40 rfl rfl rfl (by kernel_rfl) rfl (Nat.le_of_ble_eq_true rfl) ?_
    show eA _ _ _ _
    unfold ic40
    simp only [
        eA_seq, eA_reg, eA_ret, eA_skip, eA_cond, eA_block, eA_exit, eCc_true, eCc_false, Kq_normal, Kq_ret, Kq_exit, Kb_normal, Kb_exit, Kb_ret, Kreg_eq, eI_nil, bindSt_some,
              bindSt_none, bindSt_ite, eR_eq, eGI_tt, eGI_ff, eGI_tf, eGI_ft, eop, vop, ev_t, ev_c, ev_f, Option.map, put_some, put_none, set_eq, setH_eq, get_eq, hp_eq, keep_cons,
              keep_nil, lk_cons, lk_nil, startSt, envOf, reduceIte, Nat.reduceEqDiff, Nat.reduceAdd, Nat.zero_add, Nat.add_zero, Nat.reduceMul, Nat.reduceLT, Nat.reduceLeDiff, bop,
              uop, intop, fltop, convop, true_or, or_true, Bool.false_eq_true, ret_ok, ret_normal, outV, rvV, rvs, ex_some, pureV, pureX, pureX.pure1', pure1, Bool.true_and,
              Bool.false_and, Bool.and_true, Bool.and_false, Option.isNone_none, AV.cells, AV.one, storable, laid, refless, refless1, List.all_cons, List.all_nil, List.length_cons,
              List.length_nil, List.getElem?_cons_zero, List.getElem?_cons_succ, List.set_cons_zero, List.set_cons_succ, List.set_nil, List.map_cons, List.map_nil, vload, loadC,
              storeC, vnil, vfaddr, vextract, callTo, List.mapM_cons, List.mapM_nil, Option.pure_def, Option.bind_eq_bind, Option.bind_some, tabOf_cons, flatT, flatE, flatC,
              and_self, and_true, true_and, implies_true, forall_const, not_true_eq_false, not_false_eq_true, false_implies, List.take_succ_cons, List.drop_succ_cons,
              List.take_zero, List.drop_zero, Bool.not_true, Bool.not_false, beq_self_eq_true, decide_true, decide_false, eq_self, Int.reduceEq, Int.reduceLE, Int.reduceLT,
              Bool.not_not, Bool.true_or, Bool.or_true, Bool.false_or, Bool.or_false, if_true, if_false, List.getElem?_nil, Kl_normal, Kl_exit, Kl_ret, bits_i64, cast_lit,
              toNat_lit, Int.reduceAdd, Int.reduceSub, Int.reduceMul, Int.reduceNeg, Int.reducePow, Nat.reducePow, Int.reduceToNat, Nat.reduceSub, Nat.mul_one, Int.toNat_zero,
              prod_eta, List.nil_append, List.cons_append, List.append_nil, vconv, vmm, vidxA, viaddrA, iaddr_sl, iaddr_lsl, getE, vfield, vlen, fillC, fillE, List.replicate,
              elemsOf, List.length_map, f2iK_eq, bits_i64, bits_i32, bits_u64, bits_u32, bits_u8, e_mov, g_mov, e_box, g_box, e_load, g_load, e_bin, g_bin, e_faddr, g_faddr]
    repeat' (first
      | ((first | (refine eGI_of (fun h => ?_) (fun h => ?_)) | (refine eCc_of (fun h => ?_) (fun h => ?_))) <;> (try simp only [Bool.not_eq_true', Bool.not_eq_false'] at h) <;> simp only [h,
        eA_seq, eA_reg, eA_ret, eA_skip, eA_cond, eA_block, eA_exit, eCc_true, eCc_false, Kq_normal, Kq_ret, Kq_exit, Kb_normal, Kb_exit, Kb_ret, Kreg_eq, eI_nil, bindSt_some,
              bindSt_none, bindSt_ite, eR_eq, eGI_tt, eGI_ff, eGI_tf, eGI_ft, eop, vop, ev_t, ev_c, ev_f, Option.map, put_some, put_none, set_eq, setH_eq, get_eq, hp_eq, keep_cons,
              keep_nil, lk_cons, lk_nil, startSt, envOf, reduceIte, Nat.reduceEqDiff, Nat.reduceAdd, Nat.zero_add, Nat.add_zero, Nat.reduceMul, Nat.reduceLT, Nat.reduceLeDiff, bop,
              uop, intop, fltop, convop, true_or, or_true, Bool.false_eq_true, ret_ok, ret_normal, outV, rvV, rvs, ex_some, pureV, pureX, pureX.pure1', pure1, Bool.true_and,
              Bool.false_and, Bool.and_true, Bool.and_false, Option.isNone_none, AV.cells, AV.one, storable, laid, refless, refless1, List.all_cons, List.all_nil, List.length_cons,
              List.length_nil, List.getElem?_cons_zero, List.getElem?_cons_succ, List.set_cons_zero, List.set_cons_succ, List.set_nil, List.map_cons, List.map_nil, vload, loadC,
              storeC, vnil, vfaddr, vextract, callTo, List.mapM_cons, List.mapM_nil, Option.pure_def, Option.bind_eq_bind, Option.bind_some, tabOf_cons, flatT, flatE, flatC,
              and_self, and_true, true_and, implies_true, forall_const, not_true_eq_false, not_false_eq_true, false_implies, List.take_succ_cons, List.drop_succ_cons,
              List.take_zero, List.drop_zero, Bool.not_true, Bool.not_false, beq_self_eq_true, decide_true, decide_false, eq_self, Int.reduceEq, Int.reduceLE, Int.reduceLT,
              Bool.not_not, Bool.true_or, Bool.or_true, Bool.false_or, Bool.or_false, if_true, if_false, List.getElem?_nil, Kl_normal, Kl_exit, Kl_ret, bits_i64, cast_lit,
              toNat_lit, Int.reduceAdd, Int.reduceSub, Int.reduceMul, Int.reduceNeg, Int.reducePow, Nat.reducePow, Int.reduceToNat, Nat.reduceSub, Nat.mul_one, Int.toNat_zero,
              prod_eta, List.nil_append, List.cons_append, List.append_nil, vconv, vmm, vidxA, viaddrA, iaddr_sl, iaddr_lsl, getE, vfield, vlen, fillC, fillE, List.replicate,
              elemsOf, List.length_map, f2iK_eq, bits_i64, bits_i32, bits_u64, bits_u32, bits_u8, e_mov, g_mov, e_box, g_box, e_load, g_load, e_bin, g_bin, e_faddr, g_faddr]))
    all_goals (try simp only [*, m_spec_l01Inner, Bool.and_true, Bool.true_and, Bool.and_false, Bool.false_and, Bool.or_true, Bool.true_or, Bool.or_false, Bool.false_or, Bool.not_true, Bool.not_false, Bool.false_eq_true, if_true, if_false, reduceIte, decide_true, decide_false])
    all_goals (try (simp_all; done))
  · cases h
theorem s72 : ∀ vs r, g_sqrt vs = some r → Says Try.prog 72 vs r := t_sqrt Try.func72 (by kernel_rfl) rfl (by kernel_rfl) (by kernel_rfl)
def m_math_Sqrt (x0 : Nat) : Nat := (fsqrt x0)
def g_math_Sqrt : List AV → Option AV
  | [.flt .f64 y0] => some (.flt .f64 (m_math_Sqrt y0))
  | _ => none
def ic53 : ICode := (.seq (.reg [⟨(some 2), none, (.mov (.c (.flt .f64 0)))⟩] [0]) (.seq (.reg [⟨(some 3), none, (.mov (.t 0))⟩, ⟨(some 4), none, (.call (.fn 72) [(.t 3)] [])⟩,
      ⟨(some 2), none, (.mov (.t 4))⟩] [2]) .ret))
def cp53 : CP := { n := 5, kp := [[0], [2]] }
theorem s53 : ∀ vs r, g_math_Sqrt vs = some r → Says Try.prog 53 vs r := by
  intro vs r h
  unfold g_math_Sqrt at h
  split at h
  · rename_i y0
    cases h
    refine spec_of (tab := tabOf [(72, g_sqrt)]) (cp := cp53) (ic := ic53) (rvl := [(.t 2)]) hm (tabOk_cons s72 tabOk_nil) Try.func53 rfl rfl rfl (by kernel_rfl) rfl (Nat.le_of_ble_eq_true rfl) ?_
    show eA _ _ _ _
    unfold ic53
    simp only [
        eA_seq, eA_reg, eA_ret, eA_skip, eA_cond, eA_block, eA_exit, eCc_true, eCc_false, Kq_normal, Kq_ret, Kq_exit, Kb_normal, Kb_exit, Kb_ret, Kreg_eq, eI_nil, bindSt_some,
              bindSt_none, bindSt_ite, eR_eq, eGI_tt, eGI_ff, eGI_tf, eGI_ft, eop, vop, ev_t, ev_c, ev_f, Option.map, put_some, put_none, set_eq, setH_eq, get_eq, hp_eq, keep_cons,
              keep_nil, lk_cons, lk_nil, startSt, envOf, reduceIte, Nat.reduceEqDiff, Nat.reduceAdd, Nat.zero_add, Nat.add_zero, Nat.reduceMul, Nat.reduceLT, Nat.reduceLeDiff, bop,
              uop, intop, fltop, convop, true_or, or_true, Bool.false_eq_true, ret_ok, ret_normal, outV, rvV, rvs, ex_some, pureV, pureX, pureX.pure1', pure1, Bool.true_and,
              Bool.false_and, Bool.and_true, Bool.and_false, Option.isNone_none, AV.cells, AV.one, storable, laid, refless, refless1, List.all_cons, List.all_nil, List.length_cons,
              List.length_nil, List.getElem?_cons_zero, List.getElem?_cons_succ, List.set_cons_zero, List.set_cons_succ, List.set_nil, List.map_cons, List.map_nil, vload, loadC,
              storeC, vnil, vfaddr, vextract, callTo, List.mapM_cons, List.mapM_nil, Option.pure_def, Option.bind_eq_bind, Option.bind_some, tabOf_cons, flatT, flatE, flatC,
              and_self, and_true, true_and, implies_true, forall_const, not_true_eq_false, not_false_eq_true, false_implies, List.take_succ_cons, List.drop_succ_cons,
              List.take_zero, List.drop_zero, Bool.not_true, Bool.not_false, beq_self_eq_true, decide_true, decide_false, eq_self, Int.reduceEq, Int.reduceLE, Int.reduceLT,
              Bool.not_not, Bool.true_or, Bool.or_true, Bool.false_or, Bool.or_false, if_true, if_false, List.getElem?_nil, Kl_normal, Kl_exit, Kl_ret, bits_i64, cast_lit,
              toNat_lit, Int.reduceAdd, Int.reduceSub, Int.reduceMul, Int.reduceNeg, Int.reducePow, Nat.reducePow, Int.reduceToNat, Nat.reduceSub, Nat.mul_one, Int.toNat_zero,
              prod_eta, List.nil_append, List.cons_append, List.append_nil, vconv, vmm, vidxA, viaddrA, iaddr_sl, iaddr_lsl, getE, vfield, vlen, fillC, fillE, List.replicate,
              elemsOf, List.length_map, f2iK_eq, bits_i64, bits_i32, bits_u64, bits_u32, bits_u8, e_mov, g_mov, e_call, g_call, g_sqrt]
    repeat' (first
      | ((first | (refine eGI_of (fun h => ?_) (fun h => ?_)) | (refine eCc_of (fun h => ?_) (fun h => ?_))) <;> (try simp only [Bool.not_eq_true', Bool.not_eq_false'] at h) <;> simp only [h,
        eA_seq, eA_reg, eA_ret, eA_skip, eA_cond, eA_block, eA_exit, eCc_true, eCc_false, Kq_normal, Kq_ret, Kq_exit, Kb_normal, Kb_exit, Kb_ret, Kreg_eq, eI_nil, bindSt_some,
              bindSt_none, bindSt_ite, eR_eq, eGI_tt, eGI_ff, eGI_tf, eGI_ft, eop, vop, ev_t, ev_c, ev_f, Option.map, put_some, put_none, set_eq, setH_eq, get_eq, hp_eq, keep_cons,
              keep_nil, lk_cons, lk_nil, startSt, envOf, reduceIte, Nat.reduceEqDiff, Nat.reduceAdd, Nat.zero_add, Nat.add_zero, Nat.reduceMul, Nat.reduceLT, Nat.reduceLeDiff, bop,
              uop, intop, fltop, convop, true_or, or_true, Bool.false_eq_true, ret_ok, ret_normal, outV, rvV, rvs, ex_some, pureV, pureX, pureX.pure1', pure1, Bool.true_and,
              Bool.false_and, Bool.and_true, Bool.and_false, Option.isNone_none, AV.cells, AV.one, storable, laid, refless, refless1, List.all_cons, List.all_nil, List.length_cons,
              List.length_nil, List.getElem?_cons_zero, List.getElem?_cons_succ, List.set_cons_zero, List.set_cons_succ, List.set_nil, List.map_cons, List.map_nil, vload, loadC,
              storeC, vnil, vfaddr, vextract, callTo, List.mapM_cons, List.mapM_nil, Option.pure_def, Option.bind_eq_bind, Option.bind_some, tabOf_cons, flatT, flatE, flatC,
              and_self, and_true, true_and, implies_true, forall_const, not_true_eq_false, not_false_eq_true, false_implies, List.take_succ_cons, List.drop_succ_cons,
              List.take_zero, List.drop_zero, Bool.not_true, Bool.not_false, beq_self_eq_true, decide_true, decide_false, eq_self, Int.reduceEq, Int.reduceLE, Int.reduceLT,
              Bool.not_not, Bool.true_or, Bool.or_true, Bool.false_or, Bool.or_false, if_true, if_false, List.getElem?_nil, Kl_normal, Kl_exit, Kl_ret, bits_i64, cast_lit,
              toNat_lit, Int.reduceAdd, Int.reduceSub, Int.reduceMul, Int.reduceNeg, Int.reducePow, Nat.reducePow, Int.reduceToNat, Nat.reduceSub, Nat.mul_one, Int.toNat_zero,
              prod_eta, List.nil_append, List.cons_append, List.append_nil, vconv, vmm, vidxA, viaddrA, iaddr_sl, iaddr_lsl, getE, vfield, vlen, fillC, fillE, List.replicate,
              elemsOf, List.length_map, f2iK_eq, bits_i64, bits_i32, bits_u64, bits_u32, bits_u8, e_mov, g_mov, e_call, g_call, g_sqrt]))
    all_goals (try simp only [*, m_math_Sqrt, Bool.and_true, Bool.true_and, Bool.and_false, Bool.false_and, Bool.or_true, Bool.true_or, Bool.or_false, Bool.false_or, Bool.not_true, Bool.not_false, Bool.false_eq_true, if_true, if_false, reduceIte, decide_true, decide_false])
    all_goals (try (simp_all; done))
  · cases h
def m_spec_l01Narrow (x0 : Nat) : Nat := (narrow x0)
def p_spec_l01Narrow (x0 : Nat) : Bool := (narrowOk x0)
def g_spec_l01Narrow : List AV → Option AV
  | [.flt .f64 y0] => if p_spec_l01Narrow y0 = true then some (.flt .f32 (m_spec_l01Narrow y0)) else none
  | _ => none
def ic61 : ICode := (.seq (.reg [⟨(some 2), none, (.mov (.c (.flt .f32 0)))⟩] [0]) (.seq (.reg [⟨(some 3), none, (.mov (.t 0))⟩, ⟨(some 4), none, (.conv (.flt .f32) (.t 3))⟩, ⟨(some
      2), none, (.mov (.t 4))⟩] [2]) .ret))
def cp61 : CP := { n := 5, kp := [[0], [2]] }
theorem s61 : ∀ vs r, g_spec_l01Narrow vs = some r → Says Try.prog 61 vs r := by
  intro vs r h
  unfold g_spec_l01Narrow at h
  split at h
  · rename_i y0
    split at h
    · rename_i hp
      cases h
      refine spec_of (tab := tabOf []) (cp := cp61) (ic := ic61) (rvl := [(.t 2)]) hm tabOk_nil Try.func61 rfl rfl rfl (by kernel_rfl) rfl (Nat.le_of_ble_eq_true rfl) ?_
      show eA _ _ _ _
      unfold ic61
      simp only [p_spec_l01Narrow, Bool.and_eq_true, Bool.or_eq_true, decide_eq_true_eq, Bool.not_eq_true', decide_eq_false_iff_not] at hp
      simp only [
          hp, eA_seq, eA_reg, eA_ret, eA_skip, eA_cond, eA_block, eA_exit, eCc_true, eCc_false, Kq_normal, Kq_ret, Kq_exit, Kb_normal, Kb_exit, Kb_ret, Kreg_eq, eI_nil, bindSt_some,
                bindSt_none, bindSt_ite, eR_eq, eGI_tt, eGI_ff, eGI_tf, eGI_ft, eop, vop, ev_t, ev_c, ev_f, Option.map, put_some, put_none, set_eq, setH_eq, get_eq, hp_eq,
                keep_cons, keep_nil, lk_cons, lk_nil, startSt, envOf, reduceIte, Nat.reduceEqDiff, Nat.reduceAdd, Nat.zero_add, Nat.add_zero, Nat.reduceMul, Nat.reduceLT,
                Nat.reduceLeDiff, bop, uop, intop, fltop, convop, true_or, or_true, Bool.false_eq_true, ret_ok, ret_normal, outV, rvV, rvs, ex_some, pureV, pureX, pureX.pure1',
                pure1, Bool.true_and, Bool.false_and, Bool.and_true, Bool.and_false, Option.isNone_none, AV.cells, AV.one, storable, laid, refless, refless1, List.all_cons,
                List.all_nil, List.length_cons, List.length_nil, List.getElem?_cons_zero, List.getElem?_cons_succ, List.set_cons_zero, List.set_cons_succ, List.set_nil,
                List.map_cons, List.map_nil, vload, loadC, storeC, vnil, vfaddr, vextract, callTo, List.mapM_cons, List.mapM_nil, Option.pure_def, Option.bind_eq_bind,
                Option.bind_some, tabOf_cons, flatT, flatE, flatC, and_self, and_true, true_and, implies_true, forall_const, not_true_eq_false, not_false_eq_true, false_implies,
                List.take_succ_cons, List.drop_succ_cons, List.take_zero, List.drop_zero, Bool.not_true, Bool.not_false, beq_self_eq_true, decide_true, decide_false, eq_self,
                Int.reduceEq, Int.reduceLE, Int.reduceLT, Bool.not_not, Bool.true_or, Bool.or_true, Bool.false_or, Bool.or_false, if_true, if_false, List.getElem?_nil, Kl_normal,
                Kl_exit, Kl_ret, bits_i64, cast_lit, toNat_lit, Int.reduceAdd, Int.reduceSub, Int.reduceMul, Int.reduceNeg, Int.reducePow, Nat.reducePow, Int.reduceToNat,
                Nat.reduceSub, Nat.mul_one, Int.toNat_zero, prod_eta, List.nil_append, List.cons_append, List.append_nil, vconv, vmm, vidxA, viaddrA, iaddr_sl, iaddr_lsl, getE,
                vfield, vlen, fillC, fillE, List.replicate, elemsOf, List.length_map, f2iK_eq, bits_i64, bits_i32, bits_u64, bits_u32, bits_u8, e_mov, g_mov, e_conv, g_conv]
      repeat' (first
        | ((first | (refine eGI_of (fun h => ?_) (fun h => ?_)) | (refine eCc_of (fun h => ?_) (fun h => ?_))) <;> (try simp only [Bool.not_eq_true', Bool.not_eq_false'] at h) <;> (try simp only [h, reduceCtorEq, Bool.not_eq_true', decide_eq_false_iff_not, Bool.not_true, Bool.not_false, Bool.false_or, Bool.true_or, Bool.true_and, Bool.false_and, Bool.and_eq_true, Bool.or_eq_true, if_true, if_false, reduceIte, Bool.false_eq_true, and_true, true_and, false_or, or_false, decide_eq_true_eq, not_false_eq_true, not_true_eq_false] at hp) <;> (try (have h2 := h; simp only [decide_eq_true_eq, decide_eq_false_iff_not] at h2; simp only [h2, if_true, if_false, false_or, true_or, or_true, or_false, and_true, true_and, not_false_eq_true, not_true_eq_false] at hp)) <;> simp only [h,
          hp, eA_seq, eA_reg, eA_ret, eA_skip, eA_cond, eA_block, eA_exit, eCc_true, eCc_false, Kq_normal, Kq_ret, Kq_exit, Kb_normal, Kb_exit, Kb_ret, Kreg_eq, eI_nil, bindSt_some,
                bindSt_none, bindSt_ite, eR_eq, eGI_tt, eGI_ff, eGI_tf, eGI_ft, eop, vop, ev_t, ev_c, ev_f, Option.map, put_some, put_none, set_eq, setH_eq, get_eq, hp_eq,
                keep_cons, keep_nil, lk_cons, lk_nil, startSt, envOf, reduceIte, Nat.reduceEqDiff, Nat.reduceAdd, Nat.zero_add, Nat.add_zero, Nat.reduceMul, Nat.reduceLT,
                Nat.reduceLeDiff, bop, uop, intop, fltop, convop, true_or, or_true, Bool.false_eq_true, ret_ok, ret_normal, outV, rvV, rvs, ex_some, pureV, pureX, pureX.pure1',
                pure1, Bool.true_and, Bool.false_and, Bool.and_true, Bool.and_false, Option.isNone_none, AV.cells, AV.one, storable, laid, refless, refless1, List.all_cons,
                List.all_nil, List.length_cons, List.length_nil, List.getElem?_cons_zero, List.getElem?_cons_succ, List.set_cons_zero, List.set_cons_succ, List.set_nil,
                List.map_cons, List.map_nil, vload, loadC, storeC, vnil, vfaddr, vextract, callTo, List.mapM_cons, List.mapM_nil, Option.pure_def, Option.bind_eq_bind,
                Option.bind_some, tabOf_cons, flatT, flatE, flatC, and_self, and_true, true_and, implies_true, forall_const, not_true_eq_false, not_false_eq_true, false_implies,
                List.take_succ_cons, List.drop_succ_cons, List.take_zero, List.drop_zero, Bool.not_true, Bool.not_false, beq_self_eq_true, decide_true, decide_false, eq_self,
                Int.reduceEq, Int.reduceLE, Int.reduceLT, Bool.not_not, Bool.true_or, Bool.or_true, Bool.false_or, Bool.or_false, if_true, if_false, List.getElem?_nil, Kl_normal,
                Kl_exit, Kl_ret, bits_i64, cast_lit, toNat_lit, Int.reduceAdd, Int.reduceSub, Int.reduceMul, Int.reduceNeg, Int.reducePow, Nat.reducePow, Int.reduceToNat,
                Nat.reduceSub, Nat.mul_one, Int.toNat_zero, prod_eta, List.nil_append, List.cons_append, List.append_nil, vconv, vmm, vidxA, viaddrA, iaddr_sl, iaddr_lsl, getE,
                vfield, vlen, fillC, fillE, List.replicate, elemsOf, List.length_map, f2iK_eq, bits_i64, bits_i32, bits_u64, bits_u32, bits_u8, e_mov, g_mov, e_conv, g_conv]))
      all_goals (try simp only [*, m_spec_l01Narrow, Bool.and_true, Bool.true_and, Bool.and_false, Bool.false_and, Bool.or_true, Bool.true_or, Bool.or_false, Bool.false_or, Bool.not_true, Bool.not_false, Bool.false_eq_true, if_true, if_false, reduceIte, decide_true, decide_false])
      all_goals (try (simp_all; done))
    · cases h
  · cases h
def m_spec_l01Sqrt (x0 : Nat) : Nat := (m_spec_l01Narrow (m_math_Sqrt (widen x0)))
def p_spec_l01Sqrt (x0 : Nat) : Bool := (p_spec_l01Narrow (m_math_Sqrt (widen x0)))
def g_spec_l01Sqrt : List AV → Option AV
  | [.flt .f32 y0] => if p_spec_l01Sqrt y0 = true then some (.flt .f32 (m_spec_l01Sqrt y0)) else none
  | _ => none
def ic37 : ICode := (.seq (.reg [⟨(some 2), none, (.mov (.c (.flt .f32 0)))⟩] [0]) (.seq (.reg [⟨(some 3), none, (.mov (.t 0))⟩, ⟨(some 4), none, (.conv (.flt .f64) (.t 3))⟩, ⟨(some
      5), none, (.call (.fn 53) [(.t 4)] [])⟩, ⟨(some 6), none, (.call (.fn 61) [(.t 5)] [])⟩, ⟨(some 2), none, (.mov (.t 6))⟩] [2]) .ret))
def cp37 : CP := { n := 7, kp := [[0], [2]] }
theorem s37 : ∀ vs r, g_spec_l01Sqrt vs = some r → Says Try.prog 37 vs r := by
  intro vs r h
  unfold g_spec_l01Sqrt at h
  split at h
  · rename_i y0
    split at h
    · rename_i hp
      cases h
      refine spec_of (tab := tabOf [(53, g_math_Sqrt), (61, g_spec_l01Narrow)]) (cp := cp37) (ic := ic37) (rvl := [(.t 2)]) hm (tabOk_cons s53 (tabOk_cons s61 tabOk_nil)) Try.func37 rfl rfl rfl (by kernel_rfl) rfl (Nat.le_of_ble_eq_true rfl) ?_
      show eA _ _ _ _
      unfold ic37
      simp only [p_spec_l01Sqrt, Bool.and_eq_true, Bool.or_eq_true, decide_eq_true_eq, Bool.not_eq_true', decide_eq_false_iff_not] at hp
      simp only [
          hp, eA_seq, eA_reg, eA_ret, eA_skip, eA_cond, eA_block, eA_exit, eCc_true, eCc_false, Kq_normal, Kq_ret, Kq_exit, Kb_normal, Kb_exit, Kb_ret, Kreg_eq, eI_nil, bindSt_some,
                bindSt_none, bindSt_ite, eR_eq, eGI_tt, eGI_ff, eGI_tf, eGI_ft, eop, vop, ev_t, ev_c, ev_f, Option.map, put_some, put_none, set_eq, setH_eq, get_eq, hp_eq,
                keep_cons, keep_nil, lk_cons, lk_nil, startSt, envOf, reduceIte, Nat.reduceEqDiff, Nat.reduceAdd, Nat.zero_add, Nat.add_zero, Nat.reduceMul, Nat.reduceLT,
                Nat.reduceLeDiff, bop, uop, intop, fltop, convop, true_or, or_true, Bool.false_eq_true, ret_ok, ret_normal, outV, rvV, rvs, ex_some, pureV, pureX, pureX.pure1',
                pure1, Bool.true_and, Bool.false_and, Bool.and_true, Bool.and_false, Option.isNone_none, AV.cells, AV.one, storable, laid, refless, refless1, List.all_cons,
                List.all_nil, List.length_cons, List.length_nil, List.getElem?_cons_zero, List.getElem?_cons_succ, List.set_cons_zero, List.set_cons_succ, List.set_nil,
                List.map_cons, List.map_nil, vload, loadC, storeC, vnil, vfaddr, vextract, callTo, List.mapM_cons, List.mapM_nil, Option.pure_def, Option.bind_eq_bind,
                Option.bind_some, tabOf_cons, flatT, flatE, flatC, and_self, and_true, true_and, implies_true, forall_const, not_true_eq_false, not_false_eq_true, false_implies,
                List.take_succ_cons, List.drop_succ_cons, List.take_zero, List.drop_zero, Bool.not_true, Bool.not_false, beq_self_eq_true, decide_true, decide_false, eq_self,
                Int.reduceEq, Int.reduceLE, Int.reduceLT, Bool.not_not, Bool.true_or, Bool.or_true, Bool.false_or, Bool.or_false, if_true, if_false, List.getElem?_nil, Kl_normal,
                Kl_exit, Kl_ret, bits_i64, cast_lit, toNat_lit, Int.reduceAdd, Int.reduceSub, Int.reduceMul, Int.reduceNeg, Int.reducePow, Nat.reducePow, Int.reduceToNat,
                Nat.reduceSub, Nat.mul_one, Int.toNat_zero, prod_eta, List.nil_append, List.cons_append, List.append_nil, vconv, vmm, vidxA, viaddrA, iaddr_sl, iaddr_lsl, getE,
                vfield, vlen, fillC, fillE, List.replicate, elemsOf, List.length_map, f2iK_eq, bits_i64, bits_i32, bits_u64, bits_u32, bits_u8, e_mov, g_mov, e_conv, g_conv, e_call,
                g_call, g_math_Sqrt, g_spec_l01Narrow]
      repeat' (first
        | ((first | (refine eGI_of (fun h => ?_) (fun h => ?_)) | (refine eCc_of (fun h => ?_) (fun h => ?_))) <;> (try simp only [Bool.not_eq_true', Bool.not_eq_false'] at h) <;> (try simp only [h, reduceCtorEq, Bool.not_eq_true', decide_eq_false_iff_not, Bool.not_true, Bool.not_false, Bool.false_or, Bool.true_or, Bool.true_and, Bool.false_and, Bool.and_eq_true, Bool.or_eq_true, if_true, if_false, reduceIte, Bool.false_eq_true, and_true, true_and, false_or, or_false, decide_eq_true_eq, not_false_eq_true, not_true_eq_false] at hp) <;> (try (have h2 := h; simp only [decide_eq_true_eq, decide_eq_false_iff_not] at h2; simp only [h2, if_true, if_false, false_or, true_or, or_true, or_false, and_true, true_and, not_false_eq_true, not_true_eq_false] at hp)) <;> simp only [h,
          hp, eA_seq, eA_reg, eA_ret, eA_skip, eA_cond, eA_block, eA_exit, eCc_true, eCc_false, Kq_normal, Kq_ret, Kq_exit, Kb_normal, Kb_exit, Kb_ret, Kreg_eq, eI_nil, bindSt_some,
                bindSt_none, bindSt_ite, eR_eq, eGI_tt, eGI_ff, eGI_tf, eGI_ft, eop, vop, ev_t, ev_c, ev_f, Option.map, put_some, put_none, set_eq, setH_eq, get_eq, hp_eq,
                keep_cons, keep_nil, lk_cons, lk_nil, startSt, envOf, reduceIte, Nat.reduceEqDiff, Nat.reduceAdd, Nat.zero_add, Nat.add_zero, Nat.reduceMul, Nat.reduceLT,
                Nat.reduceLeDiff, bop, uop, intop, fltop, convop, true_or, or_true, Bool.false_eq_true, ret_ok, ret_normal, outV, rvV, rvs, ex_some, pureV, pureX, pureX.pure1',
                pure1, Bool.true_and, Bool.false_and, Bool.and_true, Bool.and_false, Option.isNone_none, AV.cells, AV.one, storable, laid, refless, refless1, List.all_cons,
                List.all_nil, List.length_cons, List.length_nil, List.getElem?_cons_zero, List.getElem?_cons_succ, List.set_cons_zero, List.set_cons_succ, List.set_nil,
                List.map_cons, List.map_nil, vload, loadC, storeC, vnil, vfaddr, vextract, callTo, List.mapM_cons, List.mapM_nil, Option.pure_def, Option.bind_eq_bind,
                Option.bind_some, tabOf_cons, flatT, flatE, flatC, and_self, and_true, true_and, implies_true, forall_const, not_true_eq_false, not_false_eq_true, false_implies,
                List.take_succ_cons, List.drop_succ_cons, List.take_zero, List.drop_zero, Bool.not_true, Bool.not_false, beq_self_eq_true, decide_true, decide_false, eq_self,
                Int.reduceEq, Int.reduceLE, Int.reduceLT, Bool.not_not, Bool.true_or, Bool.or_true, Bool.false_or, Bool.or_false, if_true, if_false, List.getElem?_nil, Kl_normal,
                Kl_exit, Kl_ret, bits_i64, cast_lit, toNat_lit, Int.reduceAdd, Int.reduceSub, Int.reduceMul, Int.reduceNeg, Int.reducePow, Nat.reducePow, Int.reduceToNat,
                Nat.reduceSub, Nat.mul_one, Int.toNat_zero, prod_eta, List.nil_append, List.cons_append, List.append_nil, vconv, vmm, vidxA, viaddrA, iaddr_sl, iaddr_lsl, getE,
                vfield, vlen, fillC, fillE, List.replicate, elemsOf, List.length_map, f2iK_eq, bits_i64, bits_i32, bits_u64, bits_u32, bits_u8, e_mov, g_mov, e_conv, g_conv, e_call,
                g_call, g_math_Sqrt, g_spec_l01Narrow]))
      all_goals (try simp only [*, m_spec_l01Sqrt, Bool.and_true, Bool.true_and, Bool.and_false, Bool.false_and, Bool.or_true, Bool.true_or, Bool.or_false, Bool.false_or, Bool.not_true, Bool.not_false, Bool.false_eq_true, if_true, if_false, reduceIte, decide_true, decide_false])
      all_goals (try (simp_all; done))
    · cases h
  · cases h
def m_spec_l01Long (x0 : (Nat × Nat × Nat)) : Nat := (m_spec_l01Sqrt (m_spec_l01Inner x0 x0))
def p_spec_l01Long (x0 : (Nat × Nat × Nat)) : Bool := (p_spec_l01Sqrt (m_spec_l01Inner x0 x0))
def g_spec_l01Long : List AV → Option AV
  | [.agg [.flt .f32 y0, .flt .f32 y1, .flt .f32 y2]] => if p_spec_l01Long (y0, y1, y2) = true then some (.flt .f32 (m_spec_l01Long (y0, y1,
      y2))) else none
  | _ => none
def ic35 : ICode := (.seq (.reg [⟨(some 1), none, (.box 3 (.t 0))⟩, ⟨(some 2), none, (.mov (.c (.flt .f32 0)))⟩] [1]) (.seq (.reg [⟨(some 3), none, (.load (some 3) (.t 1))⟩, ⟨(some
      4), none, (.load (some 3) (.t 1))⟩, ⟨(some 5), none, (.call (.fn 40) [(.t 3), (.t 4)] [])⟩, ⟨(some 6), none, (.call (.fn 37) [(.t 5)] [])⟩, ⟨(some 2), none, (.mov (.t 6))⟩]
      [2]) .ret))
def cp35 : CP := { n := 7, kp := [[1], [2]] }
theorem s35 : ∀ vs r, g_spec_l01Long vs = some r → Says Try.prog 35 vs r := by
  intro vs r h
  unfold g_spec_l01Long at h
  split at h
  · rename_i y0 y1 y2
    split at h
    · rename_i hp
      cases h
      refine spec_of (tab := tabOf [(37, g_spec_l01Sqrt), (40, g_spec_l01Inner)]) (cp := cp35) (ic := ic35) (rvl := [(.t 2)]) hm (tabOk_cons s37 (tabOk_cons s40 tabOk_nil)) Try.func35 rfl rfl rfl (by kernel_rfl) rfl (Nat.le_of_ble_eq_true rfl) ?_
      show eA _ _ _ _
      unfold ic35
      simp only [p_spec_l01Long, Bool.and_eq_true, Bool.or_eq_true, decide_eq_true_eq, Bool.not_eq_true', decide_eq_false_iff_not] at hp
      simp only [
          hp, eA_seq, eA_reg, eA_ret, eA_skip, eA_cond, eA_block, eA_exit, eCc_true, eCc_false, Kq_normal, Kq_ret, Kq_exit, Kb_normal, Kb_exit, Kb_ret, Kreg_eq, eI_nil, bindSt_some,
                bindSt_none, bindSt_ite, eR_eq, eGI_tt, eGI_ff, eGI_tf, eGI_ft, eop, vop, ev_t, ev_c, ev_f, Option.map, put_some, put_none, set_eq, setH_eq, get_eq, hp_eq,
                keep_cons, keep_nil, lk_cons, lk_nil, startSt, envOf, reduceIte, Nat.reduceEqDiff, Nat.reduceAdd, Nat.zero_add, Nat.add_zero, Nat.reduceMul, Nat.reduceLT,
                Nat.reduceLeDiff, bop, uop, intop, fltop, convop, true_or, or_true, Bool.false_eq_true, ret_ok, ret_normal, outV, rvV, rvs, ex_some, pureV, pureX, pureX.pure1',
                pure1, Bool.true_and, Bool.false_and, Bool.and_true, Bool.and_false, Option.isNone_none, AV.cells, AV.one, storable, laid, refless, refless1, List.all_cons,
                List.all_nil, List.length_cons, List.length_nil, List.getElem?_cons_zero, List.getElem?_cons_succ, List.set_cons_zero, List.set_cons_succ, List.set_nil,
                List.map_cons, List.map_nil, vload, loadC, storeC, vnil, vfaddr, vextract, callTo, List.mapM_cons, List.mapM_nil, Option.pure_def, Option.bind_eq_bind,
                Option.bind_some, tabOf_cons, flatT, flatE, flatC, and_self, and_true, true_and, implies_true, forall_const, not_true_eq_false, not_false_eq_true, false_implies,
                List.take_succ_cons, List.drop_succ_cons, List.take_zero, List.drop_zero, Bool.not_true, Bool.not_false, beq_self_eq_true, decide_true, decide_false, eq_self,
                Int.reduceEq, Int.reduceLE, Int.reduceLT, Bool.not_not, Bool.true_or, Bool.or_true, Bool.false_or, Bool.or_false, if_true, if_false, List.getElem?_nil, Kl_normal,
                Kl_exit, Kl_ret, bits_i64, cast_lit, toNat_lit, Int.reduceAdd, Int.reduceSub, Int.reduceMul, Int.reduceNeg, Int.reducePow, Nat.reducePow, Int.reduceToNat,
                Nat.reduceSub, Nat.mul_one, Int.toNat_zero, prod_eta, List.nil_append, List.cons_append, List.append_nil, vconv, vmm, vidxA, viaddrA, iaddr_sl, iaddr_lsl, getE,
                vfield, vlen, fillC, fillE, List.replicate, elemsOf, List.length_map, f2iK_eq, bits_i64, bits_i32, bits_u64, bits_u32, bits_u8, e_mov, g_mov, e_box, g_box, e_load,
                g_load, e_call, g_call, g_spec_l01Sqrt, g_spec_l01Inner]
      repeat' (first
        | ((first | (refine eGI_of (fun h => ?_) (fun h => ?_)) | (refine eCc_of (fun h => ?_) (fun h => ?_))) <;> (try simp only [Bool.not_eq_true', Bool.not_eq_false'] at h) <;> (try simp only [h, reduceCtorEq, Bool.not_eq_true', decide_eq_false_iff_not, Bool.not_true, Bool.not_false, Bool.false_or, Bool.true_or, Bool.true_and, Bool.false_and, Bool.and_eq_true, Bool.or_eq_true, if_true, if_false, reduceIte, Bool.false_eq_true, and_true, true_and, false_or, or_false, decide_eq_true_eq, not_false_eq_true, not_true_eq_false] at hp) <;> (try (have h2 := h; simp only [decide_eq_true_eq, decide_eq_false_iff_not] at h2; simp only [h2, if_true, if_false, false_or, true_or, or_true, or_false, and_true, true_and, not_false_eq_true, not_true_eq_false] at hp)) <;> simp only [h,
          hp, eA_seq, eA_reg, eA_ret, eA_skip, eA_cond, eA_block, eA_exit, eCc_true, eCc_false, Kq_normal, Kq_ret, Kq_exit, Kb_normal, Kb_exit, Kb_ret, Kreg_eq, eI_nil, bindSt_some,
                bindSt_none, bindSt_ite, eR_eq, eGI_tt, eGI_ff, eGI_tf, eGI_ft, eop, vop, ev_t, ev_c, ev_f, Option.map, put_some, put_none, set_eq, setH_eq, get_eq, hp_eq,
                keep_cons, keep_nil, lk_cons, lk_nil, startSt, envOf, reduceIte, Nat.reduceEqDiff, Nat.reduceAdd, Nat.zero_add, Nat.add_zero, Nat.reduceMul, Nat.reduceLT,
                Nat.reduceLeDiff, bop, uop, intop, fltop, convop, true_or, or_true, Bool.false_eq_true, ret_ok, ret_normal, outV, rvV, rvs, ex_some, pureV, pureX, pureX.pure1',
                pure1, Bool.true_and, Bool.false_and, Bool.and_true, Bool.and_false, Option.isNone_none, AV.cells, AV.one, storable, laid, refless, refless1, List.all_cons,
                List.all_nil, List.length_cons, List.length_nil, List.getElem?_cons_zero, List.getElem?_cons_succ, List.set_cons_zero, List.set_cons_succ, List.set_nil,
                List.map_cons, List.map_nil, vload, loadC, storeC, vnil, vfaddr, vextract, callTo, List.mapM_cons, List.mapM_nil, Option.pure_def, Option.bind_eq_bind,
                Option.bind_some, tabOf_cons, flatT, flatE, flatC, and_self, and_true, true_and, implies_true, forall_const, not_true_eq_false, not_false_eq_true, false_implies,
                List.take_succ_cons, List.drop_succ_cons, List.take_zero, List.drop_zero, Bool.not_true, Bool.not_false, beq_self_eq_true, decide_true, decide_false, eq_self,
                Int.reduceEq, Int.reduceLE, Int.reduceLT, Bool.not_not, Bool.true_or, Bool.or_true, Bool.false_or, Bool.or_false, if_true, if_false, List.getElem?_nil, Kl_normal,
                Kl_exit, Kl_ret, bits_i64, cast_lit, toNat_lit, Int.reduceAdd, Int.reduceSub, Int.reduceMul, Int.reduceNeg, Int.reducePow, Nat.reducePow, Int.reduceToNat,
                Nat.reduceSub, Nat.mul_one, Int.toNat_zero, prod_eta, List.nil_append, List.cons_append, List.append_nil, vconv, vmm, vidxA, viaddrA, iaddr_sl, iaddr_lsl, getE,
                vfield, vlen, fillC, fillE, List.replicate, elemsOf, List.length_map, f2iK_eq, bits_i64, bits_i32, bits_u64, bits_u32, bits_u8, e_mov, g_mov, e_box, g_box, e_load,
                g_load, e_call, g_call, g_spec_l01Sqrt, g_spec_l01Inner]))
      all_goals (try simp only [*, m_spec_l01Long, Bool.and_true, Bool.true_and, Bool.and_false, Bool.false_and, Bool.or_true, Bool.true_or, Bool.or_false, Bool.false_or, Bool.not_true, Bool.not_false, Bool.false_eq_true, if_true, if_false, reduceIte, decide_true, decide_false])
      all_goals (try (simp_all; done))
    · cases h
  · cases h
def m_spec_l01Finite (x0 : Nat) : Bool := (feq .f32 (fsub .f32 x0 x0) 0)
def g_spec_l01Finite : List AV → Option AV
  | [.flt .f32 y0] => some (.bool (m_spec_l01Finite y0))
  | _ => none
def ic58 : ICode := (.seq (.reg [⟨(some 2), none, (.mov (.c (.bool false)))⟩] [0]) (.seq (.reg [⟨(some 3), none, (.mov (.t 0))⟩, ⟨(some 4), none, (.mov (.t 0))⟩, ⟨(some 5), none,
      (.bin .sub false (.t 3) (.t 4))⟩, ⟨(some 6), none, (.bin .eql false (.t 5) (.c (.flt .f32 0)))⟩, ⟨(some 2), none, (.mov (.t 6))⟩] [2]) .ret))
def cp58 : CP := { n := 7, kp := [[0], [2]] }
theorem s58 : ∀ vs r, g_spec_l01Finite vs = some r → Says Try.prog 58 vs r := by
  intro vs r h
  unfold g_spec_l01Finite at h
  split at h
  · rename_i y0
    cases h
    refine spec_of (tab := tabOf []) (cp := cp58) (ic := ic58) (rvl := [(.t 2)]) hm tabOk_nil Try.func58 rfl rfl rfl (by kernel_rfl) rfl (Nat.le_of_ble_eq_true rfl) ?_
    show eA _ _ _ _
    unfold ic58
    simp only [
        eA_seq, eA_reg, eA_ret, eA_skip, eA_cond, eA_block, eA_exit, eCc_true, eCc_false, Kq_normal, Kq_ret, Kq_exit, Kb_normal, Kb_exit, Kb_ret, Kreg_eq, eI_nil, bindSt_some,
              bindSt_none, bindSt_ite, eR_eq, eGI_tt, eGI_ff, eGI_tf, eGI_ft, eop, vop, ev_t, ev_c, ev_f, Option.map, put_some, put_none, set_eq, setH_eq, get_eq, hp_eq, keep_cons,
              keep_nil, lk_cons, lk_nil, startSt, envOf, reduceIte, Nat.reduceEqDiff, Nat.reduceAdd, Nat.zero_add, Nat.add_zero, Nat.reduceMul, Nat.reduceLT, Nat.reduceLeDiff, bop,
              uop, intop, fltop, convop, true_or, or_true, Bool.false_eq_true, ret_ok, ret_normal, outV, rvV, rvs, ex_some, pureV, pureX, pureX.pure1', pure1, Bool.true_and,
              Bool.false_and, Bool.and_true, Bool.and_false, Option.isNone_none, AV.cells, AV.one, storable, laid, refless, refless1, List.all_cons, List.all_nil, List.length_cons,
              List.length_nil, List.getElem?_cons_zero, List.getElem?_cons_succ, List.set_cons_zero, List.set_cons_succ, List.set_nil, List.map_cons, List.map_nil, vload, loadC,
              storeC, vnil, vfaddr, vextract, callTo, List.mapM_cons, List.mapM_nil, Option.pure_def, Option.bind_eq_bind, Option.bind_some, tabOf_cons, flatT, flatE, flatC,
              and_self, and_true, true_and, implies_true, forall_const, not_true_eq_false, not_false_eq_true, false_implies, List.take_succ_cons, List.drop_succ_cons,
              List.take_zero, List.drop_zero, Bool.not_true, Bool.not_false, beq_self_eq_true, decide_true, decide_false, eq_self, Int.reduceEq, Int.reduceLE, Int.reduceLT,
              Bool.not_not, Bool.true_or, Bool.or_true, Bool.false_or, Bool.or_false, if_true, if_false, List.getElem?_nil, Kl_normal, Kl_exit, Kl_ret, bits_i64, cast_lit,
              toNat_lit, Int.reduceAdd, Int.reduceSub, Int.reduceMul, Int.reduceNeg, Int.reducePow, Nat.reducePow, Int.reduceToNat, Nat.reduceSub, Nat.mul_one, Int.toNat_zero,
              prod_eta, List.nil_append, List.cons_append, List.append_nil, vconv, vmm, vidxA, viaddrA, iaddr_sl, iaddr_lsl, getE, vfield, vlen, fillC, fillE, List.replicate,
              elemsOf, List.length_map, f2iK_eq, bits_i64, bits_i32, bits_u64, bits_u32, bits_u8, e_mov, g_mov, e_bin, g_bin]
    repeat' (first
      | ((first | (refine eGI_of (fun h => ?_) (fun h => ?_)) | (refine eCc_of (fun h => ?_) (fun h => ?_))) <;> (try simp only [Bool.not_eq_true', Bool.not_eq_false'] at h) <;> simp only [h,
        eA_seq, eA_reg, eA_ret, eA_skip, eA_cond, eA_block, eA_exit, eCc_true, eCc_false, Kq_normal, Kq_ret, Kq_exit, Kb_normal, Kb_exit, Kb_ret, Kreg_eq, eI_nil, bindSt_some,
              bindSt_none, bindSt_ite, eR_eq, eGI_tt, eGI_ff, eGI_tf, eGI_ft, eop, vop, ev_t, ev_c, ev_f, Option.map, put_some, put_none, set_eq, setH_eq, get_eq, hp_eq, keep_cons,
              keep_nil, lk_cons, lk_nil, startSt, envOf, reduceIte, Nat.reduceEqDiff, Nat.reduceAdd, Nat.zero_add, Nat.add_zero, Nat.reduceMul, Nat.reduceLT, Nat.reduceLeDiff, bop,
              uop, intop, fltop, convop, true_or, or_true, Bool.false_eq_true, ret_ok, ret_normal, outV, rvV, rvs, ex_some, pureV, pureX, pureX.pure1', pure1, Bool.true_and,
              Bool.false_and, Bool.and_true, Bool.and_false, Option.isNone_none, AV.cells, AV.one, storable, laid, refless, refless1, List.all_cons, List.all_nil, List.length_cons,
              List.length_nil, List.getElem?_cons_zero, List.getElem?_cons_succ, List.set_cons_zero, List.set_cons_succ, List.set_nil, List.map_cons, List.map_nil, vload, loadC,
              storeC, vnil, vfaddr, vextract, callTo, List.mapM_cons, List.mapM_nil, Option.pure_def, Option.bind_eq_bind, Option.bind_some, tabOf_cons, flatT, flatE, flatC,
              and_self, and_true, true_and, implies_true, forall_const, not_true_eq_false, not_false_eq_true, false_implies, List.take_succ_cons, List.drop_succ_cons,
              List.take_zero, List.drop_zero, Bool.not_true, Bool.not_false, beq_self_eq_true, decide_true, decide_false, eq_self, Int.reduceEq, Int.reduceLE, Int.reduceLT,
              Bool.not_not, Bool.true_or, Bool.or_true, Bool.false_or, Bool.or_false, if_true, if_false, List.getElem?_nil, Kl_normal, Kl_exit, Kl_ret, bits_i64, cast_lit,
              toNat_lit, Int.reduceAdd, Int.reduceSub, Int.reduceMul, Int.reduceNeg, Int.reducePow, Nat.reducePow, Int.reduceToNat, Nat.reduceSub, Nat.mul_one, Int.toNat_zero,
              prod_eta, List.nil_append, List.cons_append, List.append_nil, vconv, vmm, vidxA, viaddrA, iaddr_sl, iaddr_lsl, getE, vfield, vlen, fillC, fillE, List.replicate,
              elemsOf, List.length_map, f2iK_eq, bits_i64, bits_i32, bits_u64, bits_u32, bits_u8, e_mov, g_mov, e_bin, g_bin]))
    all_goals (try simp only [*, m_spec_l01Finite, Bool.and_true, Bool.true_and, Bool.and_false, Bool.false_and, Bool.or_true, Bool.true_or, Bool.or_false, Bool.false_or, Bool.not_true, Bool.not_false, Bool.false_eq_true, if_true, if_false, reduceIte, decide_true, decide_false])
    all_goals (try (simp_all; done))
  · cases h
def m_spec_l04Length (x0 : Nat) : Bool := (if (m_spec_l01Finite x0) = true then (flt .f32 0 x0) else false)
def g_spec_l04Length : List AV → Option AV
  | [.flt .f32 y0] => some (.bool (m_spec_l04Length y0))
  | _ => none
def ic36 : ICode := (.seq (.reg [⟨(some 2), none, (.mov (.c (.bool false)))⟩] [0]) (.seq (.reg [⟨(some 3), none, (.mov (.t 0))⟩, ⟨(some 4), none, (.call (.fn 58) [(.t 3)] [])⟩,
      ⟨(some 5), none, (.mov (.t 4))⟩, ⟨(some 6), (some (5, true)), (.mov (.t 0))⟩, ⟨(some 7), (some (5, true)), (.bin .gtr false (.t 6) (.c (.flt .f32 0)))⟩, ⟨(some 8), none,
      (.pick (.t 5) (.t 7) (.c (.bool false)))⟩, ⟨(some 2), none, (.mov (.t 8))⟩] [2]) .ret))
def cp36 : CP := { n := 9, kp := [[0], [2]] }
theorem s36 : ∀ vs r, g_spec_l04Length vs = some r → Says Try.prog 36 vs r := by
  intro vs r h
  unfold g_spec_l04Length at h
  split at h
  · rename_i y0
    cases h
    refine spec_of (tab := tabOf [(58, g_spec_l01Finite)]) (cp := cp36) (ic := ic36) (rvl := [(.t 2)]) hm (tabOk_cons s58 tabOk_nil) Try.func36 rfl rfl rfl (by kernel_rfl) rfl (Nat.le_of_ble_eq_true rfl) ?_
    show eA _ _ _ _
    unfold ic36
    simp only [
        eA_seq, eA_reg, eA_ret, eA_skip, eA_cond, eA_block, eA_exit, eCc_true, eCc_false, Kq_normal, Kq_ret, Kq_exit, Kb_normal, Kb_exit, Kb_ret, Kreg_eq, eI_nil, bindSt_some,
              bindSt_none, bindSt_ite, eR_eq, eGI_tt, eGI_ff, eGI_tf, eGI_ft, eop, vop, ev_t, ev_c, ev_f, Option.map, put_some, put_none, set_eq, setH_eq, get_eq, hp_eq, keep_cons,
              keep_nil, lk_cons, lk_nil, startSt, envOf, reduceIte, Nat.reduceEqDiff, Nat.reduceAdd, Nat.zero_add, Nat.add_zero, Nat.reduceMul, Nat.reduceLT, Nat.reduceLeDiff, bop,
              uop, intop, fltop, convop, true_or, or_true, Bool.false_eq_true, ret_ok, ret_normal, outV, rvV, rvs, ex_some, pureV, pureX, pureX.pure1', pure1, Bool.true_and,
              Bool.false_and, Bool.and_true, Bool.and_false, Option.isNone_none, AV.cells, AV.one, storable, laid, refless, refless1, List.all_cons, List.all_nil, List.length_cons,
              List.length_nil, List.getElem?_cons_zero, List.getElem?_cons_succ, List.set_cons_zero, List.set_cons_succ, List.set_nil, List.map_cons, List.map_nil, vload, loadC,
              storeC, vnil, vfaddr, vextract, callTo, List.mapM_cons, List.mapM_nil, Option.pure_def, Option.bind_eq_bind, Option.bind_some, tabOf_cons, flatT, flatE, flatC,
              and_self, and_true, true_and, implies_true, forall_const, not_true_eq_false, not_false_eq_true, false_implies, List.take_succ_cons, List.drop_succ_cons,
              List.take_zero, List.drop_zero, Bool.not_true, Bool.not_false, beq_self_eq_true, decide_true, decide_false, eq_self, Int.reduceEq, Int.reduceLE, Int.reduceLT,
              Bool.not_not, Bool.true_or, Bool.or_true, Bool.false_or, Bool.or_false, if_true, if_false, List.getElem?_nil, Kl_normal, Kl_exit, Kl_ret, bits_i64, cast_lit,
              toNat_lit, Int.reduceAdd, Int.reduceSub, Int.reduceMul, Int.reduceNeg, Int.reducePow, Nat.reducePow, Int.reduceToNat, Nat.reduceSub, Nat.mul_one, Int.toNat_zero,
              prod_eta, List.nil_append, List.cons_append, List.append_nil, vconv, vmm, vidxA, viaddrA, iaddr_sl, iaddr_lsl, getE, vfield, vlen, fillC, fillE, List.replicate,
              elemsOf, List.length_map, f2iK_eq, bits_i64, bits_i32, bits_u64, bits_u32, bits_u8, e_mov, g_mov, e_pick, g_pick, e_bin, g_bin, e_call, g_call, g_spec_l01Finite,
              ↓b_pick, ePk_true, ePk_false]
    repeat' (first
      | ((first | (refine eGI_of (fun h => ?_) (fun h => ?_)) | (refine eCc_of (fun h => ?_) (fun h => ?_)) | (refine ePk_of (fun h => ?_) (fun h => ?_))) <;> (try simp only [Bool.not_eq_true', Bool.not_eq_false'] at h) <;> simp only [h,
        eA_seq, eA_reg, eA_ret, eA_skip, eA_cond, eA_block, eA_exit, eCc_true, eCc_false, Kq_normal, Kq_ret, Kq_exit, Kb_normal, Kb_exit, Kb_ret, Kreg_eq, eI_nil, bindSt_some,
              bindSt_none, bindSt_ite, eR_eq, eGI_tt, eGI_ff, eGI_tf, eGI_ft, eop, vop, ev_t, ev_c, ev_f, Option.map, put_some, put_none, set_eq, setH_eq, get_eq, hp_eq, keep_cons,
              keep_nil, lk_cons, lk_nil, startSt, envOf, reduceIte, Nat.reduceEqDiff, Nat.reduceAdd, Nat.zero_add, Nat.add_zero, Nat.reduceMul, Nat.reduceLT, Nat.reduceLeDiff, bop,
              uop, intop, fltop, convop, true_or, or_true, Bool.false_eq_true, ret_ok, ret_normal, outV, rvV, rvs, ex_some, pureV, pureX, pureX.pure1', pure1, Bool.true_and,
              Bool.false_and, Bool.and_true, Bool.and_false, Option.isNone_none, AV.cells, AV.one, storable, laid, refless, refless1, List.all_cons, List.all_nil, List.length_cons,
              List.length_nil, List.getElem?_cons_zero, List.getElem?_cons_succ, List.set_cons_zero, List.set_cons_succ, List.set_nil, List.map_cons, List.map_nil, vload, loadC,
              storeC, vnil, vfaddr, vextract, callTo, List.mapM_cons, List.mapM_nil, Option.pure_def, Option.bind_eq_bind, Option.bind_some, tabOf_cons, flatT, flatE, flatC,
              and_self, and_true, true_and, implies_true, forall_const, not_true_eq_false, not_false_eq_true, false_implies, List.take_succ_cons, List.drop_succ_cons,
              List.take_zero, List.drop_zero, Bool.not_true, Bool.not_false, beq_self_eq_true, decide_true, decide_false, eq_self, Int.reduceEq, Int.reduceLE, Int.reduceLT,
              Bool.not_not, Bool.true_or, Bool.or_true, Bool.false_or, Bool.or_false, if_true, if_false, List.getElem?_nil, Kl_normal, Kl_exit, Kl_ret, bits_i64, cast_lit,
              toNat_lit, Int.reduceAdd, Int.reduceSub, Int.reduceMul, Int.reduceNeg, Int.reducePow, Nat.reducePow, Int.reduceToNat, Nat.reduceSub, Nat.mul_one, Int.toNat_zero,
              prod_eta, List.nil_append, List.cons_append, List.append_nil, vconv, vmm, vidxA, viaddrA, iaddr_sl, iaddr_lsl, getE, vfield, vlen, fillC, fillE, List.replicate,
              elemsOf, List.length_map, f2iK_eq, bits_i64, bits_i32, bits_u64, bits_u32, bits_u8, e_mov, g_mov, e_pick, g_pick, e_bin, g_bin, e_call, g_call, g_spec_l01Finite,
              ↓b_pick, ePk_true, ePk_false]))
    all_goals (try simp only [*, m_spec_l04Length, Bool.and_true, Bool.true_and, Bool.and_false, Bool.false_and, Bool.or_true, Bool.true_or, Bool.or_false, Bool.false_or, Bool.not_true, Bool.not_false, Bool.false_eq_true, if_true, if_false, reduceIte, decide_true, decide_false])
    all_goals (try (simp_all; done))
  · cases h
def m_spec_l01Scale (x0 : (Nat × Nat × Nat)) (x1 : Nat) : (Nat × Nat × Nat) := ((fmul .f32 x0.1 x1), (fmul .f32 x0.2.1 x1), (fmul .f32 x0.2.2 x1))
def g_spec_l01Scale : List AV → Option AV
  | [.agg [.flt .f32 y0, .flt .f32 y1, .flt .f32 y2], .flt .f32 y3] => some (AV.agg [(.flt .f32 (m_spec_l01Scale (y0, y1, y2) y3).1), (.flt
      .f32 (m_spec_l01Scale (y0, y1, y2) y3).2.1), (.flt .f32 (m_spec_l01Scale (y0, y1, y2) y3).2.2)])
  | _ => none
def ic39 : ICode := (.seq (.reg [⟨(some 2), none, (.box 3 (.t 0))⟩, ⟨(some 4), none, (.alloc (.agg [(.flt .f32 0), (.flt .f32 0), (.flt .f32 0)]))⟩] [1, 2, 4]) (.seq (.reg [⟨(some
      5), none, (.faddr 0 (.t 2))⟩, ⟨(some 6), none, (.load none (.t 5))⟩, ⟨(some 7), none, (.mov (.t 1))⟩, ⟨(some 8), none, (.bin .mul false (.t 6) (.t 7))⟩, ⟨(some 9), none,
      (.faddr 1 (.t 2))⟩, ⟨(some 10), none, (.load none (.t 9))⟩, ⟨(some 11), none, (.mov (.t 1))⟩, ⟨(some 12), none, (.bin .mul false (.t 10) (.t 11))⟩, ⟨(some 13), none, (.faddr 2
      (.t 2))⟩, ⟨(some 14), none, (.load none (.t 13))⟩, ⟨(some 15), none, (.mov (.t 1))⟩, ⟨(some 16), none, (.bin .mul false (.t 14) (.t 15))⟩, ⟨(some 17), none, (.build [(.flt
      .f32 0), (.flt .f32 0), (.flt .f32 0)] [(0, 1, (.t 8)), (1, 1, (.t 12)), (2, 1, (.t 16))])⟩, ⟨none, none, (.store 3 (.t 4) (.t 17))⟩] [4]) .ret))
def cp39 : CP := { n := 18, kp := [[1, 2, 4], [4]] }
theorem s39 : ∀ vs r, g_spec_l01Scale vs = some r → Says Try.prog 39 vs r := by
  intro vs r h
  unfold g_spec_l01Scale at h
  split at h
  · rename_i y0 y1 y2 y3
    cases h
    refine spec_of (tab := tabOf []) (cp := cp39) (ic := ic39) (rvl := [(.c 4 (some 3))]) hm tabOk_nil Try.func39 rfl rfl rfl (by kernel_rfl) rfl (Nat.le_of_ble_eq_true rfl) ?_
    show eA _ _ _ _
    unfold ic39
    simp only [
        eA_seq, eA_reg, eA_ret, eA_skip, eA_cond, eA_block, eA_exit, eCc_true, eCc_false, Kq_normal, Kq_ret, Kq_exit, Kb_normal, Kb_exit, Kb_ret, Kreg_eq, eI_nil, bindSt_some,
              bindSt_none, bindSt_ite, eR_eq, eGI_tt, eGI_ff, eGI_tf, eGI_ft, eop, vop, ev_t, ev_c, ev_f, Option.map, put_some, put_none, set_eq, setH_eq, get_eq, hp_eq, keep_cons,
              keep_nil, lk_cons, lk_nil, startSt, envOf, reduceIte, Nat.reduceEqDiff, Nat.reduceAdd, Nat.zero_add, Nat.add_zero, Nat.reduceMul, Nat.reduceLT, Nat.reduceLeDiff, bop,
              uop, intop, fltop, convop, true_or, or_true, Bool.false_eq_true, ret_ok, ret_normal, outV, rvV, rvs, ex_some, pureV, pureX, pureX.pure1', pure1, Bool.true_and,
              Bool.false_and, Bool.and_true, Bool.and_false, Option.isNone_none, AV.cells, AV.one, storable, laid, refless, refless1, List.all_cons, List.all_nil, List.length_cons,
              List.length_nil, List.getElem?_cons_zero, List.getElem?_cons_succ, List.set_cons_zero, List.set_cons_succ, List.set_nil, List.map_cons, List.map_nil, vload, loadC,
              storeC, vnil, vfaddr, vextract, callTo, List.mapM_cons, List.mapM_nil, Option.pure_def, Option.bind_eq_bind, Option.bind_some, tabOf_cons, flatT, flatE, flatC,
              and_self, and_true, true_and, implies_true, forall_const, not_true_eq_false, not_false_eq_true, false_implies, List.take_succ_cons, List.drop_succ_cons,
              List.take_zero, List.drop_zero, Bool.not_true, Bool.not_false, beq_self_eq_true, decide_true, decide_false, eq_self, Int.reduceEq, Int.reduceLE, Int.reduceLT,
              Bool.not_not, Bool.true_or, Bool.or_true, Bool.false_or, Bool.or_false, if_true, if_false, List.getElem?_nil, Kl_normal, Kl_exit, Kl_ret, bits_i64, cast_lit,
              toNat_lit, Int.reduceAdd, Int.reduceSub, Int.reduceMul, Int.reduceNeg, Int.reducePow, Nat.reducePow, Int.reduceToNat, Nat.reduceSub, Nat.mul_one, Int.toNat_zero,
              prod_eta, List.nil_append, List.cons_append, List.append_nil, vconv, vmm, vidxA, viaddrA, iaddr_sl, iaddr_lsl, getE, vfield, vlen, fillC, fillE, List.replicate,
              elemsOf, List.length_map, f2iK_eq, bits_i64, bits_i32, bits_u64, bits_u32, bits_u8, e_mov, g_mov, e_alloc, g_alloc, e_box, g_box, e_build, g_build, e_load, g_load,
              e_store, g_store, e_bin, g_bin, e_faddr, g_faddr]
    repeat' (first
      | ((first | (refine eGI_of (fun h => ?_) (fun h => ?_)) | (refine eCc_of (fun h => ?_) (fun h => ?_))) <;> (try simp only [Bool.not_eq_true', Bool.not_eq_false'] at h) <;> simp only [h,
        eA_seq, eA_reg, eA_ret, eA_skip, eA_cond, eA_block, eA_exit, eCc_true, eCc_false, Kq_normal, Kq_ret, Kq_exit, Kb_normal, Kb_exit, Kb_ret, Kreg_eq, eI_nil, bindSt_some,
              bindSt_none, bindSt_ite, eR_eq, eGI_tt, eGI_ff, eGI_tf, eGI_ft, eop, vop, ev_t, ev_c, ev_f, Option.map, put_some, put_none, set_eq, setH_eq, get_eq, hp_eq, keep_cons,
              keep_nil, lk_cons, lk_nil, startSt, envOf, reduceIte, Nat.reduceEqDiff, Nat.reduceAdd, Nat.zero_add, Nat.add_zero, Nat.reduceMul, Nat.reduceLT, Nat.reduceLeDiff, bop,
              uop, intop, fltop, convop, true_or, or_true, Bool.false_eq_true, ret_ok, ret_normal, outV, rvV, rvs, ex_some, pureV, pureX, pureX.pure1', pure1, Bool.true_and,
              Bool.false_and, Bool.and_true, Bool.and_false, Option.isNone_none, AV.cells, AV.one, storable, laid, refless, refless1, List.all_cons, List.all_nil, List.length_cons,
              List.length_nil, List.getElem?_cons_zero, List.getElem?_cons_succ, List.set_cons_zero, List.set_cons_succ, List.set_nil, List.map_cons, List.map_nil, vload, loadC,
              storeC, vnil, vfaddr, vextract, callTo, List.mapM_cons, List.mapM_nil, Option.pure_def, Option.bind_eq_bind, Option.bind_some, tabOf_cons, flatT, flatE, flatC,
              and_self, and_true, true_and, implies_true, forall_const, not_true_eq_false, not_false_eq_true, false_implies, List.take_succ_cons, List.drop_succ_cons,
              List.take_zero, List.drop_zero, Bool.not_true, Bool.not_false, beq_self_eq_true, decide_true, decide_false, eq_self, Int.reduceEq, Int.reduceLE, Int.reduceLT,
              Bool.not_not, Bool.true_or, Bool.or_true, Bool.false_or, Bool.or_false, if_true, if_false, List.getElem?_nil, Kl_normal, Kl_exit, Kl_ret, bits_i64, cast_lit,
              toNat_lit, Int.reduceAdd, Int.reduceSub, Int.reduceMul, Int.reduceNeg, Int.reducePow, Nat.reducePow, Int.reduceToNat, Nat.reduceSub, Nat.mul_one, Int.toNat_zero,
              prod_eta, List.nil_append, List.cons_append, List.append_nil, vconv, vmm, vidxA, viaddrA, iaddr_sl, iaddr_lsl, getE, vfield, vlen, fillC, fillE, List.replicate,
              elemsOf, List.length_map, f2iK_eq, bits_i64, bits_i32, bits_u64, bits_u32, bits_u8, e_mov, g_mov, e_alloc, g_alloc, e_box, g_box, e_build, g_build, e_load, g_load,
              e_store, g_store, e_bin, g_bin, e_faddr, g_faddr]))
    all_goals (try simp only [*, m_spec_l01Scale, Bool.and_true, Bool.true_and, Bool.and_false, Bool.false_and, Bool.or_true, Bool.true_or, Bool.or_false, Bool.false_or, Bool.not_true, Bool.not_false, Bool.false_eq_true, if_true, if_false, reduceIte, decide_true, decide_false])
    all_goals (try (simp_all; done))
  · cases h
def m_spec_l01Less (x0 : (Nat × Nat × Nat)) (x1 : (Nat × Nat × Nat)) : (Nat × Nat × Nat) := ((fsub .f32 x0.1 x1.1), (fsub .f32 x0.2.1 x1.2.1), (fsub .f32 x0.2.2 x1.2.2))
def g_spec_l01Less : List AV → Option AV
  | [.agg [.flt .f32 y0, .flt .f32 y1, .flt .f32 y2], .agg [.flt .f32 y3, .flt .f32 y4, .flt .f32 y5]] => some (AV.agg [(.flt .f32
      (m_spec_l01Less (y0, y1, y2) (y3, y4, y5)).1), (.flt .f32 (m_spec_l01Less (y0, y1, y2) (y3, y4, y5)).2.1), (.flt .f32 (m_spec_l01Less (y0, y1, y2) (y3, y4, y5)).2.2)])
  | _ => none
def ic38 : ICode := (.seq (.reg [⟨(some 2), none, (.box 3 (.t 0))⟩, ⟨(some 3), none, (.box 3 (.t 1))⟩, ⟨(some 4), none, (.alloc (.agg [(.flt .f32 0), (.flt .f32 0), (.flt .f32
      0)]))⟩] [2, 3, 4]) (.seq (.reg [⟨(some 5), none, (.faddr 0 (.t 2))⟩, ⟨(some 6), none, (.load none (.t 5))⟩, ⟨(some 7), none, (.faddr 0 (.t 3))⟩, ⟨(some 8), none, (.load none
      (.t 7))⟩, ⟨(some 9), none, (.bin .sub false (.t 6) (.t 8))⟩, ⟨(some 10), none, (.faddr 1 (.t 2))⟩, ⟨(some 11), none, (.load none (.t 10))⟩, ⟨(some 12), none, (.faddr 1 (.t
      3))⟩, ⟨(some 13), none, (.load none (.t 12))⟩, ⟨(some 14), none, (.bin .sub false (.t 11) (.t 13))⟩, ⟨(some 15), none, (.faddr 2 (.t 2))⟩, ⟨(some 16), none, (.load none (.t
      15))⟩, ⟨(some 17), none, (.faddr 2 (.t 3))⟩, ⟨(some 18), none, (.load none (.t 17))⟩, ⟨(some 19), none, (.bin .sub false (.t 16) (.t 18))⟩, ⟨(some 20), none, (.build [(.flt
      .f32 0), (.flt .f32 0), (.flt .f32 0)] [(0, 1, (.t 9)), (1, 1, (.t 14)), (2, 1, (.t 19))])⟩, ⟨none, none, (.store 3 (.t 4) (.t 20))⟩] [4]) .ret))
def cp38 : CP := { n := 21, kp := [[2, 3, 4], [4]] }
theorem s38 : ∀ vs r, g_spec_l01Less vs = some r → Says Try.prog 38 vs r := by
  intro vs r h
  unfold g_spec_l01Less at h
  split at h
  · rename_i y0 y1 y2 y3 y4 y5
    cases h
    refine spec_of (tab := tabOf []) (cp := cp38) (ic := ic38) (rvl := [(.c 4 (some 3))]) hm tabOk_nil Try.func38 rfl rfl rfl (by kernel_rfl) rfl (Nat.le_of_ble_eq_true rfl) ?_
    show eA _ _ _ _
    unfold ic38
    simp only [
        eA_seq, eA_reg, eA_ret, eA_skip, eA_cond, eA_block, eA_exit, eCc_true, eCc_false, Kq_normal, Kq_ret, Kq_exit, Kb_normal, Kb_exit, Kb_ret, Kreg_eq, eI_nil, bindSt_some,
              bindSt_none, bindSt_ite, eR_eq, eGI_tt, eGI_ff, eGI_tf, eGI_ft, eop, vop, ev_t, ev_c, ev_f, Option.map, put_some, put_none, set_eq, setH_eq, get_eq, hp_eq, keep_cons,
              keep_nil, lk_cons, lk_nil, startSt, envOf, reduceIte, Nat.reduceEqDiff, Nat.reduceAdd, Nat.zero_add, Nat.add_zero, Nat.reduceMul, Nat.reduceLT, Nat.reduceLeDiff, bop,
              uop, intop, fltop, convop, true_or, or_true, Bool.false_eq_true, ret_ok, ret_normal, outV, rvV, rvs, ex_some, pureV, pureX, pureX.pure1', pure1, Bool.true_and,
              Bool.false_and, Bool.and_true, Bool.and_false, Option.isNone_none, AV.cells, AV.one, storable, laid, refless, refless1, List.all_cons, List.all_nil, List.length_cons,
              List.length_nil, List.getElem?_cons_zero, List.getElem?_cons_succ, List.set_cons_zero, List.set_cons_succ, List.set_nil, List.map_cons, List.map_nil, vload, loadC,
              storeC, vnil, vfaddr, vextract, callTo, List.mapM_cons, List.mapM_nil, Option.pure_def, Option.bind_eq_bind, Option.bind_some, tabOf_cons, flatT, flatE, flatC,
              and_self, and_true, true_and, implies_true, forall_const, not_true_eq_false, not_false_eq_true, false_implies, List.take_succ_cons, List.drop_succ_cons,
              List.take_zero, List.drop_zero, Bool.not_true, Bool.not_false, beq_self_eq_true, decide_true, decide_false, eq_self, Int.reduceEq, Int.reduceLE, Int.reduceLT,
              Bool.not_not, Bool.true_or, Bool.or_true, Bool.false_or, Bool.or_false, if_true, if_false, List.getElem?_nil, Kl_normal, Kl_exit, Kl_ret, bits_i64, cast_lit,
              toNat_lit, Int.reduceAdd, Int.reduceSub, Int.reduceMul, Int.reduceNeg, Int.reducePow, Nat.reducePow, Int.reduceToNat, Nat.reduceSub, Nat.mul_one, Int.toNat_zero,
              prod_eta, List.nil_append, List.cons_append, List.append_nil, vconv, vmm, vidxA, viaddrA, iaddr_sl, iaddr_lsl, getE, vfield, vlen, fillC, fillE, List.replicate,
              elemsOf, List.length_map, f2iK_eq, bits_i64, bits_i32, bits_u64, bits_u32, bits_u8, e_alloc, g_alloc, e_box, g_box, e_build, g_build, e_load, g_load, e_store, g_store,
              e_bin, g_bin, e_faddr, g_faddr]
    repeat' (first
      | ((first | (refine eGI_of (fun h => ?_) (fun h => ?_)) | (refine eCc_of (fun h => ?_) (fun h => ?_))) <;> (try simp only [Bool.not_eq_true', Bool.not_eq_false'] at h) <;> simp only [h,
        eA_seq, eA_reg, eA_ret, eA_skip, eA_cond, eA_block, eA_exit, eCc_true, eCc_false, Kq_normal, Kq_ret, Kq_exit, Kb_normal, Kb_exit, Kb_ret, Kreg_eq, eI_nil, bindSt_some,
              bindSt_none, bindSt_ite, eR_eq, eGI_tt, eGI_ff, eGI_tf, eGI_ft, eop, vop, ev_t, ev_c, ev_f, Option.map, put_some, put_none, set_eq, setH_eq, get_eq, hp_eq, keep_cons,
              keep_nil, lk_cons, lk_nil, startSt, envOf, reduceIte, Nat.reduceEqDiff, Nat.reduceAdd, Nat.zero_add, Nat.add_zero, Nat.reduceMul, Nat.reduceLT, Nat.reduceLeDiff, bop,
              uop, intop, fltop, convop, true_or, or_true, Bool.false_eq_true, ret_ok, ret_normal, outV, rvV, rvs, ex_some, pureV, pureX, pureX.pure1', pure1, Bool.true_and,
              Bool.false_and, Bool.and_true, Bool.and_false, Option.isNone_none, AV.cells, AV.one, storable, laid, refless, refless1, List.all_cons, List.all_nil, List.length_cons,
              List.length_nil, List.getElem?_cons_zero, List.getElem?_cons_succ, List.set_cons_zero, List.set_cons_succ, List.set_nil, List.map_cons, List.map_nil, vload, loadC,
              storeC, vnil, vfaddr, vextract, callTo, List.mapM_cons, List.mapM_nil, Option.pure_def, Option.bind_eq_bind, Option.bind_some, tabOf_cons, flatT, flatE, flatC,
              and_self, and_true, true_and, implies_true, forall_const, not_true_eq_false, not_false_eq_true, false_implies, List.take_succ_cons, List.drop_succ_cons,
              List.take_zero, List.drop_zero, Bool.not_true, Bool.not_false, beq_self_eq_true, decide_true, decide_false, eq_self, Int.reduceEq, Int.reduceLE, Int.reduceLT,
              Bool.not_not, Bool.true_or, Bool.or_true, Bool.false_or, Bool.or_false, if_true, if_false, List.getElem?_nil, Kl_normal, Kl_exit, Kl_ret, bits_i64, cast_lit,
              toNat_lit, Int.reduceAdd, Int.reduceSub, Int.reduceMul, Int.reduceNeg, Int.reducePow, Nat.reducePow, Int.reduceToNat, Nat.reduceSub, Nat.mul_one, Int.toNat_zero,
              prod_eta, List.nil_append, List.cons_append, List.append_nil, vconv, vmm, vidxA, viaddrA, iaddr_sl, iaddr_lsl, getE, vfield, vlen, fillC, fillE, List.replicate,
              elemsOf, List.length_map, f2iK_eq, bits_i64, bits_i32, bits_u64, bits_u32, bits_u8, e_alloc, g_alloc, e_box, g_box, e_build, g_build, e_load, g_load, e_store, g_store,
              e_bin, g_bin, e_faddr, g_faddr]))
    all_goals (try simp only [*, m_spec_l01Less, Bool.and_true, Bool.true_and, Bool.and_false, Bool.false_and, Bool.or_true, Bool.true_or, Bool.or_false, Bool.false_or, Bool.not_true, Bool.not_false, Bool.false_eq_true, if_true, if_false, reduceIte, decide_true, decide_false])
    all_goals (try (simp_all; done))
  · cases h
def m_spec_l01Add (x0 : (Nat × Nat × Nat)) (x1 : (Nat × Nat × Nat)) : (Nat × Nat × Nat) := ((fadd .f32 x0.1 x1.1), (fadd .f32 x0.2.1 x1.2.1), (fadd .f32 x0.2.2 x1.2.2))
def g_spec_l01Add : List AV → Option AV
  | [.agg [.flt .f32 y0, .flt .f32 y1, .flt .f32 y2], .agg [.flt .f32 y3, .flt .f32 y4, .flt .f32 y5]] => some (AV.agg [(.flt .f32
      (m_spec_l01Add (y0, y1, y2) (y3, y4, y5)).1), (.flt .f32 (m_spec_l01Add (y0, y1, y2) (y3, y4, y5)).2.1), (.flt .f32 (m_spec_l01Add (y0, y1, y2) (y3, y4, y5)).2.2)])
  | _ => none
def ic41 : ICode := (.seq (.reg [⟨(some 2), none, (.box 3 (.t 0))⟩, ⟨(some 3), none, (.box 3 (.t 1))⟩, ⟨(some 4), none, (.alloc (.agg [(.flt .f32 0), (.flt .f32 0), (.flt .f32
      0)]))⟩] [2, 3, 4]) (.seq (.reg [⟨(some 5), none, (.faddr 0 (.t 2))⟩, ⟨(some 6), none, (.load none (.t 5))⟩, ⟨(some 7), none, (.faddr 0 (.t 3))⟩, ⟨(some 8), none, (.load none
      (.t 7))⟩, ⟨(some 9), none, (.bin .add false (.t 6) (.t 8))⟩, ⟨(some 10), none, (.faddr 1 (.t 2))⟩, ⟨(some 11), none, (.load none (.t 10))⟩, ⟨(some 12), none, (.faddr 1 (.t
      3))⟩, ⟨(some 13), none, (.load none (.t 12))⟩, ⟨(some 14), none, (.bin .add false (.t 11) (.t 13))⟩, ⟨(some 15), none, (.faddr 2 (.t 2))⟩, ⟨(some 16), none, (.load none (.t
      15))⟩, ⟨(some 17), none, (.faddr 2 (.t 3))⟩, ⟨(some 18), none, (.load none (.t 17))⟩, ⟨(some 19), none, (.bin .add false (.t 16) (.t 18))⟩, ⟨(some 20), none, (.build [(.flt
      .f32 0), (.flt .f32 0), (.flt .f32 0)] [(0, 1, (.t 9)), (1, 1, (.t 14)), (2, 1, (.t 19))])⟩, ⟨none, none, (.store 3 (.t 4) (.t 20))⟩] [4]) .ret))
def cp41 : CP := { n := 21, kp := [[2, 3, 4], [4]] }
theorem s41 : ∀ vs r, g_spec_l01Add vs = some r → Says Try.prog 41 vs r := by
  intro vs r h
  unfold g_spec_l01Add at h
  split at h
  · rename_i y0 y1 y2 y3 y4 y5
    cases h
    refine spec_of (tab := tabOf []) (cp := cp41) (ic := ic41) (rvl := [(.c 4 (some 3))]) hm tabOk_nil Try.func41 rfl rfl rfl (by kernel_rfl) rfl (Nat.le_of_ble_eq_true rfl) ?_
    show eA _ _ _ _
    unfold ic41
    simp only [
        eA_seq, eA_reg, eA_ret, eA_skip, eA_cond, eA_block, eA_exit, eCc_true, eCc_false, Kq_normal, Kq_ret, Kq_exit, Kb_normal, Kb_exit, Kb_ret, Kreg_eq, eI_nil, bindSt_some,
              bindSt_none, bindSt_ite, eR_eq, eGI_tt, eGI_ff, eGI_tf, eGI_ft, eop, vop, ev_t, ev_c, ev_f, Option.map, put_some, put_none, set_eq, setH_eq, get_eq, hp_eq, keep_cons,
              keep_nil, lk_cons, lk_nil, startSt, envOf, reduceIte, Nat.reduceEqDiff, Nat.reduceAdd, Nat.zero_add, Nat.add_zero, Nat.reduceMul, Nat.reduceLT, Nat.reduceLeDiff, bop,
              uop, intop, fltop, convop, true_or, or_true, Bool.false_eq_true, ret_ok, ret_normal, outV, rvV, rvs, ex_some, pureV, pureX, pureX.pure1', pure1, Bool.true_and,
              Bool.false_and, Bool.and_true, Bool.and_false, Option.isNone_none, AV.cells, AV.one, storable, laid, refless, refless1, List.all_cons, List.all_nil, List.length_cons,
              List.length_nil, List.getElem?_cons_zero, List.getElem?_cons_succ, List.set_cons_zero, List.set_cons_succ, List.set_nil, List.map_cons, List.map_nil, vload, loadC,
              storeC, vnil, vfaddr, vextract, callTo, List.mapM_cons, List.mapM_nil, Option.pure_def, Option.bind_eq_bind, Option.bind_some, tabOf_cons, flatT, flatE, flatC,
              and_self, and_true, true_and, implies_true, forall_const, not_true_eq_false, not_false_eq_true, false_implies, List.take_succ_cons, List.drop_succ_cons,
              List.take_zero, List.drop_zero, Bool.not_true, Bool.not_false, beq_self_eq_true, decide_true, decide_false, eq_self, Int.reduceEq, Int.reduceLE, Int.reduceLT,
              Bool.not_not, Bool.true_or, Bool.or_true, Bool.false_or, Bool.or_false, if_true, if_false, List.getElem?_nil, Kl_normal, Kl_exit, Kl_ret, bits_i64, cast_lit,
              toNat_lit, Int.reduceAdd, Int.reduceSub, Int.reduceMul, Int.reduceNeg, Int.reducePow, Nat.reducePow, Int.reduceToNat, Nat.reduceSub, Nat.mul_one, Int.toNat_zero,
              prod_eta, List.nil_append, List.cons_append, List.append_nil, vconv, vmm, vidxA, viaddrA, iaddr_sl, iaddr_lsl, getE, vfield, vlen, fillC, fillE, List.replicate,
              elemsOf, List.length_map, f2iK_eq, bits_i64, bits_i32, bits_u64, bits_u32, bits_u8, e_alloc, g_alloc, e_box, g_box, e_build, g_build, e_load, g_load, e_store, g_store,
              e_bin, g_bin, e_faddr, g_faddr]
    repeat' (first
      | ((first | (refine eGI_of (fun h => ?_) (fun h => ?_)) | (refine eCc_of (fun h => ?_) (fun h => ?_))) <;> (try simp only [Bool.not_eq_true', Bool.not_eq_false'] at h) <;> simp only [h,
        eA_seq, eA_reg, eA_ret, eA_skip, eA_cond, eA_block, eA_exit, eCc_true, eCc_false, Kq_normal, Kq_ret, Kq_exit, Kb_normal, Kb_exit, Kb_ret, Kreg_eq, eI_nil, bindSt_some,
              bindSt_none, bindSt_ite, eR_eq, eGI_tt, eGI_ff, eGI_tf, eGI_ft, eop, vop, ev_t, ev_c, ev_f, Option.map, put_some, put_none, set_eq, setH_eq, get_eq, hp_eq, keep_cons,
              keep_nil, lk_cons, lk_nil, startSt, envOf, reduceIte, Nat.reduceEqDiff, Nat.reduceAdd, Nat.zero_add, Nat.add_zero, Nat.reduceMul, Nat.reduceLT, Nat.reduceLeDiff, bop,
              uop, intop, fltop, convop, true_or, or_true, Bool.false_eq_true, ret_ok, ret_normal, outV, rvV, rvs, ex_some, pureV, pureX, pureX.pure1', pure1, Bool.true_and,
              Bool.false_and, Bool.and_true, Bool.and_false, Option.isNone_none, AV.cells, AV.one, storable, laid, refless, refless1, List.all_cons, List.all_nil, List.length_cons,
              List.length_nil, List.getElem?_cons_zero, List.getElem?_cons_succ, List.set_cons_zero, List.set_cons_succ, List.set_nil, List.map_cons, List.map_nil, vload, loadC,
              storeC, vnil, vfaddr, vextract, callTo, List.mapM_cons, List.mapM_nil, Option.pure_def, Option.bind_eq_bind, Option.bind_some, tabOf_cons, flatT, flatE, flatC,
              and_self, and_true, true_and, implies_true, forall_const, not_true_eq_false, not_false_eq_true, false_implies, List.take_succ_cons, List.drop_succ_cons,
              List.take_zero, List.drop_zero, Bool.not_true, Bool.not_false, beq_self_eq_true, decide_true, decide_false, eq_self, Int.reduceEq, Int.reduceLE, Int.reduceLT,
              Bool.not_not, Bool.true_or, Bool.or_true, Bool.false_or, Bool.or_false, if_true, if_false, List.getElem?_nil, Kl_normal, Kl_exit, Kl_ret, bits_i64, cast_lit,
              toNat_lit, Int.reduceAdd, Int.reduceSub, Int.reduceMul, Int.reduceNeg, Int.reducePow, Nat.reducePow, Int.reduceToNat, Nat.reduceSub, Nat.mul_one, Int.toNat_zero,
              prod_eta, List.nil_append, List.cons_append, List.append_nil, vconv, vmm, vidxA, viaddrA, iaddr_sl, iaddr_lsl, getE, vfield, vlen, fillC, fillE, List.replicate,
              elemsOf, List.length_map, f2iK_eq, bits_i64, bits_i32, bits_u64, bits_u32, bits_u8, e_alloc, g_alloc, e_box, g_box, e_build, g_build, e_load, g_load, e_store, g_store,
              e_bin, g_bin, e_faddr, g_faddr]))
    all_goals (try simp only [*, m_spec_l01Add, Bool.and_true, Bool.true_and, Bool.and_false, Bool.false_and, Bool.or_true, Bool.true_or, Bool.or_false, Bool.false_or, Bool.not_true, Bool.not_false, Bool.false_eq_true, if_true, if_false, reduceIte, decide_true, decide_false])
    all_goals (try (simp_all; done))
  · cases h
def m_spec_TwoBones (x0 : Nat) (x1 : Nat) (x2 : (Nat × Nat × Nat)) (x3 : (Nat × Nat × Nat)) : ((Nat × Nat × Nat) × (Nat × Nat × Nat) × Bool) := (if (m_spec_l04Length x0) = true then
      (if (m_spec_l04Length x1) = true then (if (m_spec_l04Length (m_spec_l01Long x2)) = true then (if (flt .f32 (fadd .f32 x0 x1) (m_spec_l01Long x2)) = true then (if (flt .f32 0
      (fsub .f32 (fmul .f32 x0 x0) (fmul .f32 (fdiv .f32 (fadd .f32 (fsub .f32 (fmul .f32 x0 x0) (fmul .f32 x1 x1)) (fmul .f32 (fadd .f32 x0 x1) (fadd .f32 x0 x1))) (fmul .f32
      1073741824 (fadd .f32 x0 x1))) (fdiv .f32 (fadd .f32 (fsub .f32 (fmul .f32 x0 x0) (fmul .f32 x1 x1)) (fmul .f32 (fadd .f32 x0 x1) (fadd .f32 x0 x1))) (fmul .f32 1073741824
      (fadd .f32 x0 x1)))))) = true then (if (m_spec_l04Length (m_spec_l01Long (m_spec_l01Less x3 (m_spec_l01Scale ((fdiv .f32 x2.1 (m_spec_l01Long x2)), (fdiv .f32 x2.2.1
      (m_spec_l01Long x2)), (fdiv .f32 x2.2.2 (m_spec_l01Long x2))) (m_spec_l01Inner x3 ((fdiv .f32 x2.1 (m_spec_l01Long x2)), (fdiv .f32 x2.2.1 (m_spec_l01Long x2)), (fdiv .f32
      x2.2.2 (m_spec_l01Long x2)))))))) = true then ((m_spec_l01Add (m_spec_l01Scale ((fdiv .f32 x2.1 (m_spec_l01Long x2)), (fdiv .f32 x2.2.1 (m_spec_l01Long x2)), (fdiv .f32 x2.2.2
      (m_spec_l01Long x2))) (fdiv .f32 (fadd .f32 (fsub .f32 (fmul .f32 x0 x0) (fmul .f32 x1 x1)) (fmul .f32 (fadd .f32 x0 x1) (fadd .f32 x0 x1))) (fmul .f32 1073741824 (fadd .f32
      x0 x1)))) (m_spec_l01Scale ((fdiv .f32 (m_spec_l01Less x3 (m_spec_l01Scale ((fdiv .f32 x2.1 (m_spec_l01Long x2)), (fdiv .f32 x2.2.1 (m_spec_l01Long x2)), (fdiv .f32 x2.2.2
      (m_spec_l01Long x2))) (m_spec_l01Inner x3 ((fdiv .f32 x2.1 (m_spec_l01Long x2)), (fdiv .f32 x2.2.1 (m_spec_l01Long x2)), (fdiv .f32 x2.2.2 (m_spec_l01Long x2)))))).1
      (m_spec_l01Long (m_spec_l01Less x3 (m_spec_l01Scale ((fdiv .f32 x2.1 (m_spec_l01Long x2)), (fdiv .f32 x2.2.1 (m_spec_l01Long x2)), (fdiv .f32 x2.2.2 (m_spec_l01Long x2)))
      (m_spec_l01Inner x3 ((fdiv .f32 x2.1 (m_spec_l01Long x2)), (fdiv .f32 x2.2.1 (m_spec_l01Long x2)), (fdiv .f32 x2.2.2 (m_spec_l01Long x2)))))))), (fdiv .f32 (m_spec_l01Less x3
      (m_spec_l01Scale ((fdiv .f32 x2.1 (m_spec_l01Long x2)), (fdiv .f32 x2.2.1 (m_spec_l01Long x2)), (fdiv .f32 x2.2.2 (m_spec_l01Long x2))) (m_spec_l01Inner x3 ((fdiv .f32 x2.1
      (m_spec_l01Long x2)), (fdiv .f32 x2.2.1 (m_spec_l01Long x2)), (fdiv .f32 x2.2.2 (m_spec_l01Long x2)))))).2.1 (m_spec_l01Long (m_spec_l01Less x3 (m_spec_l01Scale ((fdiv .f32
      x2.1 (m_spec_l01Long x2)), (fdiv .f32 x2.2.1 (m_spec_l01Long x2)), (fdiv .f32 x2.2.2 (m_spec_l01Long x2))) (m_spec_l01Inner x3 ((fdiv .f32 x2.1 (m_spec_l01Long x2)), (fdiv
      .f32 x2.2.1 (m_spec_l01Long x2)), (fdiv .f32 x2.2.2 (m_spec_l01Long x2)))))))), (fdiv .f32 (m_spec_l01Less x3 (m_spec_l01Scale ((fdiv .f32 x2.1 (m_spec_l01Long x2)), (fdiv
      .f32 x2.2.1 (m_spec_l01Long x2)), (fdiv .f32 x2.2.2 (m_spec_l01Long x2))) (m_spec_l01Inner x3 ((fdiv .f32 x2.1 (m_spec_l01Long x2)), (fdiv .f32 x2.2.1 (m_spec_l01Long x2)),
      (fdiv .f32 x2.2.2 (m_spec_l01Long x2)))))).2.2 (m_spec_l01Long (m_spec_l01Less x3 (m_spec_l01Scale ((fdiv .f32 x2.1 (m_spec_l01Long x2)), (fdiv .f32 x2.2.1 (m_spec_l01Long
      x2)), (fdiv .f32 x2.2.2 (m_spec_l01Long x2))) (m_spec_l01Inner x3 ((fdiv .f32 x2.1 (m_spec_l01Long x2)), (fdiv .f32 x2.2.1 (m_spec_l01Long x2)), (fdiv .f32 x2.2.2
      (m_spec_l01Long x2))))))))) (m_spec_l01Sqrt (fsub .f32 (fmul .f32 x0 x0) (fmul .f32 (fdiv .f32 (fadd .f32 (fsub .f32 (fmul .f32 x0 x0) (fmul .f32 x1 x1)) (fmul .f32 (fadd .f32
      x0 x1) (fadd .f32 x0 x1))) (fmul .f32 1073741824 (fadd .f32 x0 x1))) (fdiv .f32 (fadd .f32 (fsub .f32 (fmul .f32 x0 x0) (fmul .f32 x1 x1)) (fmul .f32 (fadd .f32 x0 x1) (fadd
      .f32 x0 x1))) (fmul .f32 1073741824 (fadd .f32 x0 x1)))))))), (m_spec_l01Scale ((fdiv .f32 x2.1 (m_spec_l01Long x2)), (fdiv .f32 x2.2.1 (m_spec_l01Long x2)), (fdiv .f32 x2.2.2
      (m_spec_l01Long x2))) (fadd .f32 x0 x1)), true) else ((0, 0, 0), (0, 0, 0), false)) else (if (m_spec_l04Length (m_spec_l01Long (m_spec_l01Less x3 (m_spec_l01Scale ((fdiv .f32
      x2.1 (m_spec_l01Long x2)), (fdiv .f32 x2.2.1 (m_spec_l01Long x2)), (fdiv .f32 x2.2.2 (m_spec_l01Long x2))) (m_spec_l01Inner x3 ((fdiv .f32 x2.1 (m_spec_l01Long x2)), (fdiv
      .f32 x2.2.1 (m_spec_l01Long x2)), (fdiv .f32 x2.2.2 (m_spec_l01Long x2)))))))) = true then ((m_spec_l01Add (m_spec_l01Scale ((fdiv .f32 x2.1 (m_spec_l01Long x2)), (fdiv .f32
      x2.2.1 (m_spec_l01Long x2)), (fdiv .f32 x2.2.2 (m_spec_l01Long x2))) (fdiv .f32 (fadd .f32 (fsub .f32 (fmul .f32 x0 x0) (fmul .f32 x1 x1)) (fmul .f32 (fadd .f32 x0 x1) (fadd
      .f32 x0 x1))) (fmul .f32 1073741824 (fadd .f32 x0 x1)))) (m_spec_l01Scale ((fdiv .f32 (m_spec_l01Less x3 (m_spec_l01Scale ((fdiv .f32 x2.1 (m_spec_l01Long x2)), (fdiv .f32
      x2.2.1 (m_spec_l01Long x2)), (fdiv .f32 x2.2.2 (m_spec_l01Long x2))) (m_spec_l01Inner x3 ((fdiv .f32 x2.1 (m_spec_l01Long x2)), (fdiv .f32 x2.2.1 (m_spec_l01Long x2)), (fdiv
      .f32 x2.2.2 (m_spec_l01Long x2)))))).1 (m_spec_l01Long (m_spec_l01Less x3 (m_spec_l01Scale ((fdiv .f32 x2.1 (m_spec_l01Long x2)), (fdiv .f32 x2.2.1 (m_spec_l01Long x2)), (fdiv
      .f32 x2.2.2 (m_spec_l01Long x2))) (m_spec_l01Inner x3 ((fdiv .f32 x2.1 (m_spec_l01Long x2)), (fdiv .f32 x2.2.1 (m_spec_l01Long x2)), (fdiv .f32 x2.2.2 (m_spec_l01Long
      x2)))))))), (fdiv .f32 (m_spec_l01Less x3 (m_spec_l01Scale ((fdiv .f32 x2.1 (m_spec_l01Long x2)), (fdiv .f32 x2.2.1 (m_spec_l01Long x2)), (fdiv .f32 x2.2.2 (m_spec_l01Long
      x2))) (m_spec_l01Inner x3 ((fdiv .f32 x2.1 (m_spec_l01Long x2)), (fdiv .f32 x2.2.1 (m_spec_l01Long x2)), (fdiv .f32 x2.2.2 (m_spec_l01Long x2)))))).2.1 (m_spec_l01Long
      (m_spec_l01Less x3 (m_spec_l01Scale ((fdiv .f32 x2.1 (m_spec_l01Long x2)), (fdiv .f32 x2.2.1 (m_spec_l01Long x2)), (fdiv .f32 x2.2.2 (m_spec_l01Long x2))) (m_spec_l01Inner x3
      ((fdiv .f32 x2.1 (m_spec_l01Long x2)), (fdiv .f32 x2.2.1 (m_spec_l01Long x2)), (fdiv .f32 x2.2.2 (m_spec_l01Long x2)))))))), (fdiv .f32 (m_spec_l01Less x3 (m_spec_l01Scale
      ((fdiv .f32 x2.1 (m_spec_l01Long x2)), (fdiv .f32 x2.2.1 (m_spec_l01Long x2)), (fdiv .f32 x2.2.2 (m_spec_l01Long x2))) (m_spec_l01Inner x3 ((fdiv .f32 x2.1 (m_spec_l01Long
      x2)), (fdiv .f32 x2.2.1 (m_spec_l01Long x2)), (fdiv .f32 x2.2.2 (m_spec_l01Long x2)))))).2.2 (m_spec_l01Long (m_spec_l01Less x3 (m_spec_l01Scale ((fdiv .f32 x2.1
      (m_spec_l01Long x2)), (fdiv .f32 x2.2.1 (m_spec_l01Long x2)), (fdiv .f32 x2.2.2 (m_spec_l01Long x2))) (m_spec_l01Inner x3 ((fdiv .f32 x2.1 (m_spec_l01Long x2)), (fdiv .f32
      x2.2.1 (m_spec_l01Long x2)), (fdiv .f32 x2.2.2 (m_spec_l01Long x2))))))))) (m_spec_l01Sqrt 0))), (m_spec_l01Scale ((fdiv .f32 x2.1 (m_spec_l01Long x2)), (fdiv .f32 x2.2.1
      (m_spec_l01Long x2)), (fdiv .f32 x2.2.2 (m_spec_l01Long x2))) (fadd .f32 x0 x1)), true) else ((0, 0, 0), (0, 0, 0), false))) else (if (flt .f32 0 (fsub .f32 (fmul .f32 x0 x0)
      (fmul .f32 (fdiv .f32 (fadd .f32 (fsub .f32 (fmul .f32 x0 x0) (fmul .f32 x1 x1)) (fmul .f32 (m_spec_l01Long x2) (m_spec_l01Long x2))) (fmul .f32 1073741824 (m_spec_l01Long
      x2))) (fdiv .f32 (fadd .f32 (fsub .f32 (fmul .f32 x0 x0) (fmul .f32 x1 x1)) (fmul .f32 (m_spec_l01Long x2) (m_spec_l01Long x2))) (fmul .f32 1073741824 (m_spec_l01Long x2))))))
      = true then (if (m_spec_l04Length (m_spec_l01Long (m_spec_l01Less x3 (m_spec_l01Scale ((fdiv .f32 x2.1 (m_spec_l01Long x2)), (fdiv .f32 x2.2.1 (m_spec_l01Long x2)), (fdiv .f32
      x2.2.2 (m_spec_l01Long x2))) (m_spec_l01Inner x3 ((fdiv .f32 x2.1 (m_spec_l01Long x2)), (fdiv .f32 x2.2.1 (m_spec_l01Long x2)), (fdiv .f32 x2.2.2 (m_spec_l01Long x2)))))))) =
      true then ((m_spec_l01Add (m_spec_l01Scale ((fdiv .f32 x2.1 (m_spec_l01Long x2)), (fdiv .f32 x2.2.1 (m_spec_l01Long x2)), (fdiv .f32 x2.2.2 (m_spec_l01Long x2))) (fdiv .f32
      (fadd .f32 (fsub .f32 (fmul .f32 x0 x0) (fmul .f32 x1 x1)) (fmul .f32 (m_spec_l01Long x2) (m_spec_l01Long x2))) (fmul .f32 1073741824 (m_spec_l01Long x2)))) (m_spec_l01Scale
      ((fdiv .f32 (m_spec_l01Less x3 (m_spec_l01Scale ((fdiv .f32 x2.1 (m_spec_l01Long x2)), (fdiv .f32 x2.2.1 (m_spec_l01Long x2)), (fdiv .f32 x2.2.2 (m_spec_l01Long x2)))
      (m_spec_l01Inner x3 ((fdiv .f32 x2.1 (m_spec_l01Long x2)), (fdiv .f32 x2.2.1 (m_spec_l01Long x2)), (fdiv .f32 x2.2.2 (m_spec_l01Long x2)))))).1 (m_spec_l01Long (m_spec_l01Less
      x3 (m_spec_l01Scale ((fdiv .f32 x2.1 (m_spec_l01Long x2)), (fdiv .f32 x2.2.1 (m_spec_l01Long x2)), (fdiv .f32 x2.2.2 (m_spec_l01Long x2))) (m_spec_l01Inner x3 ((fdiv .f32 x2.1
      (m_spec_l01Long x2)), (fdiv .f32 x2.2.1 (m_spec_l01Long x2)), (fdiv .f32 x2.2.2 (m_spec_l01Long x2)))))))), (fdiv .f32 (m_spec_l01Less x3 (m_spec_l01Scale ((fdiv .f32 x2.1
      (m_spec_l01Long x2)), (fdiv .f32 x2.2.1 (m_spec_l01Long x2)), (fdiv .f32 x2.2.2 (m_spec_l01Long x2))) (m_spec_l01Inner x3 ((fdiv .f32 x2.1 (m_spec_l01Long x2)), (fdiv .f32
      x2.2.1 (m_spec_l01Long x2)), (fdiv .f32 x2.2.2 (m_spec_l01Long x2)))))).2.1 (m_spec_l01Long (m_spec_l01Less x3 (m_spec_l01Scale ((fdiv .f32 x2.1 (m_spec_l01Long x2)), (fdiv
      .f32 x2.2.1 (m_spec_l01Long x2)), (fdiv .f32 x2.2.2 (m_spec_l01Long x2))) (m_spec_l01Inner x3 ((fdiv .f32 x2.1 (m_spec_l01Long x2)), (fdiv .f32 x2.2.1 (m_spec_l01Long x2)),
      (fdiv .f32 x2.2.2 (m_spec_l01Long x2)))))))), (fdiv .f32 (m_spec_l01Less x3 (m_spec_l01Scale ((fdiv .f32 x2.1 (m_spec_l01Long x2)), (fdiv .f32 x2.2.1 (m_spec_l01Long x2)),
      (fdiv .f32 x2.2.2 (m_spec_l01Long x2))) (m_spec_l01Inner x3 ((fdiv .f32 x2.1 (m_spec_l01Long x2)), (fdiv .f32 x2.2.1 (m_spec_l01Long x2)), (fdiv .f32 x2.2.2 (m_spec_l01Long
      x2)))))).2.2 (m_spec_l01Long (m_spec_l01Less x3 (m_spec_l01Scale ((fdiv .f32 x2.1 (m_spec_l01Long x2)), (fdiv .f32 x2.2.1 (m_spec_l01Long x2)), (fdiv .f32 x2.2.2
      (m_spec_l01Long x2))) (m_spec_l01Inner x3 ((fdiv .f32 x2.1 (m_spec_l01Long x2)), (fdiv .f32 x2.2.1 (m_spec_l01Long x2)), (fdiv .f32 x2.2.2 (m_spec_l01Long x2)))))))))
      (m_spec_l01Sqrt (fsub .f32 (fmul .f32 x0 x0) (fmul .f32 (fdiv .f32 (fadd .f32 (fsub .f32 (fmul .f32 x0 x0) (fmul .f32 x1 x1)) (fmul .f32 (m_spec_l01Long x2) (m_spec_l01Long
      x2))) (fmul .f32 1073741824 (m_spec_l01Long x2))) (fdiv .f32 (fadd .f32 (fsub .f32 (fmul .f32 x0 x0) (fmul .f32 x1 x1)) (fmul .f32 (m_spec_l01Long x2) (m_spec_l01Long x2)))
      (fmul .f32 1073741824 (m_spec_l01Long x2)))))))), (m_spec_l01Scale ((fdiv .f32 x2.1 (m_spec_l01Long x2)), (fdiv .f32 x2.2.1 (m_spec_l01Long x2)), (fdiv .f32 x2.2.2
      (m_spec_l01Long x2))) (m_spec_l01Long x2)), true) else ((0, 0, 0), (0, 0, 0), false)) else (if (m_spec_l04Length (m_spec_l01Long (m_spec_l01Less x3 (m_spec_l01Scale ((fdiv
      .f32 x2.1 (m_spec_l01Long x2)), (fdiv .f32 x2.2.1 (m_spec_l01Long x2)), (fdiv .f32 x2.2.2 (m_spec_l01Long x2))) (m_spec_l01Inner x3 ((fdiv .f32 x2.1 (m_spec_l01Long x2)),
      (fdiv .f32 x2.2.1 (m_spec_l01Long x2)), (fdiv .f32 x2.2.2 (m_spec_l01Long x2)))))))) = true then ((m_spec_l01Add (m_spec_l01Scale ((fdiv .f32 x2.1 (m_spec_l01Long x2)), (fdiv
      .f32 x2.2.1 (m_spec_l01Long x2)), (fdiv .f32 x2.2.2 (m_spec_l01Long x2))) (fdiv .f32 (fadd .f32 (fsub .f32 (fmul .f32 x0 x0) (fmul .f32 x1 x1)) (fmul .f32 (m_spec_l01Long x2)
      (m_spec_l01Long x2))) (fmul .f32 1073741824 (m_spec_l01Long x2)))) (m_spec_l01Scale ((fdiv .f32 (m_spec_l01Less x3 (m_spec_l01Scale ((fdiv .f32 x2.1 (m_spec_l01Long x2)),
      (fdiv .f32 x2.2.1 (m_spec_l01Long x2)), (fdiv .f32 x2.2.2 (m_spec_l01Long x2))) (m_spec_l01Inner x3 ((fdiv .f32 x2.1 (m_spec_l01Long x2)), (fdiv .f32 x2.2.1 (m_spec_l01Long
      x2)), (fdiv .f32 x2.2.2 (m_spec_l01Long x2)))))).1 (m_spec_l01Long (m_spec_l01Less x3 (m_spec_l01Scale ((fdiv .f32 x2.1 (m_spec_l01Long x2)), (fdiv .f32 x2.2.1 (m_spec_l01Long
      x2)), (fdiv .f32 x2.2.2 (m_spec_l01Long x2))) (m_spec_l01Inner x3 ((fdiv .f32 x2.1 (m_spec_l01Long x2)), (fdiv .f32 x2.2.1 (m_spec_l01Long x2)), (fdiv .f32 x2.2.2
      (m_spec_l01Long x2)))))))), (fdiv .f32 (m_spec_l01Less x3 (m_spec_l01Scale ((fdiv .f32 x2.1 (m_spec_l01Long x2)), (fdiv .f32 x2.2.1 (m_spec_l01Long x2)), (fdiv .f32 x2.2.2
      (m_spec_l01Long x2))) (m_spec_l01Inner x3 ((fdiv .f32 x2.1 (m_spec_l01Long x2)), (fdiv .f32 x2.2.1 (m_spec_l01Long x2)), (fdiv .f32 x2.2.2 (m_spec_l01Long x2)))))).2.1
      (m_spec_l01Long (m_spec_l01Less x3 (m_spec_l01Scale ((fdiv .f32 x2.1 (m_spec_l01Long x2)), (fdiv .f32 x2.2.1 (m_spec_l01Long x2)), (fdiv .f32 x2.2.2 (m_spec_l01Long x2)))
      (m_spec_l01Inner x3 ((fdiv .f32 x2.1 (m_spec_l01Long x2)), (fdiv .f32 x2.2.1 (m_spec_l01Long x2)), (fdiv .f32 x2.2.2 (m_spec_l01Long x2)))))))), (fdiv .f32 (m_spec_l01Less x3
      (m_spec_l01Scale ((fdiv .f32 x2.1 (m_spec_l01Long x2)), (fdiv .f32 x2.2.1 (m_spec_l01Long x2)), (fdiv .f32 x2.2.2 (m_spec_l01Long x2))) (m_spec_l01Inner x3 ((fdiv .f32 x2.1
      (m_spec_l01Long x2)), (fdiv .f32 x2.2.1 (m_spec_l01Long x2)), (fdiv .f32 x2.2.2 (m_spec_l01Long x2)))))).2.2 (m_spec_l01Long (m_spec_l01Less x3 (m_spec_l01Scale ((fdiv .f32
      x2.1 (m_spec_l01Long x2)), (fdiv .f32 x2.2.1 (m_spec_l01Long x2)), (fdiv .f32 x2.2.2 (m_spec_l01Long x2))) (m_spec_l01Inner x3 ((fdiv .f32 x2.1 (m_spec_l01Long x2)), (fdiv
      .f32 x2.2.1 (m_spec_l01Long x2)), (fdiv .f32 x2.2.2 (m_spec_l01Long x2))))))))) (m_spec_l01Sqrt 0))), (m_spec_l01Scale ((fdiv .f32 x2.1 (m_spec_l01Long x2)), (fdiv .f32 x2.2.1
      (m_spec_l01Long x2)), (fdiv .f32 x2.2.2 (m_spec_l01Long x2))) (m_spec_l01Long x2)), true) else ((0, 0, 0), (0, 0, 0), false)))) else ((0, 0, 0), (0, 0, 0), false)) else ((0,
      0, 0), (0, 0, 0), false)) else ((0, 0, 0), (0, 0, 0), false))
def p_spec_TwoBones (x0 : Nat) (x1 : Nat) (x2 : (Nat × Nat × Nat)) (x3 : (Nat × Nat × Nat)) : Bool := ((p_spec_l01Long x2) && (!(m_spec_l04Length x0) || (!(m_spec_l04Length x1) ||
      (!(m_spec_l04Length (m_spec_l01Long x2)) || (if (flt .f32 (fadd .f32 x0 x1) (m_spec_l01Long x2)) = true then (if (flt .f32 0 (fsub .f32 (fmul .f32 x0 x0) (fmul .f32 (fdiv .f32
      (fadd .f32 (fsub .f32 (fmul .f32 x0 x0) (fmul .f32 x1 x1)) (fmul .f32 (fadd .f32 x0 x1) (fadd .f32 x0 x1))) (fmul .f32 1073741824 (fadd .f32 x0 x1))) (fdiv .f32 (fadd .f32
      (fsub .f32 (fmul .f32 x0 x0) (fmul .f32 x1 x1)) (fmul .f32 (fadd .f32 x0 x1) (fadd .f32 x0 x1))) (fmul .f32 1073741824 (fadd .f32 x0 x1)))))) = true then ((p_spec_l01Sqrt
      (fsub .f32 (fmul .f32 x0 x0) (fmul .f32 (fdiv .f32 (fadd .f32 (fsub .f32 (fmul .f32 x0 x0) (fmul .f32 x1 x1)) (fmul .f32 (fadd .f32 x0 x1) (fadd .f32 x0 x1))) (fmul .f32
      1073741824 (fadd .f32 x0 x1))) (fdiv .f32 (fadd .f32 (fsub .f32 (fmul .f32 x0 x0) (fmul .f32 x1 x1)) (fmul .f32 (fadd .f32 x0 x1) (fadd .f32 x0 x1))) (fmul .f32 1073741824
      (fadd .f32 x0 x1)))))) && (p_spec_l01Long (m_spec_l01Less x3 (m_spec_l01Scale ((fdiv .f32 x2.1 (m_spec_l01Long x2)), (fdiv .f32 x2.2.1 (m_spec_l01Long x2)), (fdiv .f32 x2.2.2
      (m_spec_l01Long x2))) (m_spec_l01Inner x3 ((fdiv .f32 x2.1 (m_spec_l01Long x2)), (fdiv .f32 x2.2.1 (m_spec_l01Long x2)), (fdiv .f32 x2.2.2 (m_spec_l01Long x2)))))))) else
      ((p_spec_l01Sqrt 0) && (p_spec_l01Long (m_spec_l01Less x3 (m_spec_l01Scale ((fdiv .f32 x2.1 (m_spec_l01Long x2)), (fdiv .f32 x2.2.1 (m_spec_l01Long x2)), (fdiv .f32 x2.2.2
      (m_spec_l01Long x2))) (m_spec_l01Inner x3 ((fdiv .f32 x2.1 (m_spec_l01Long x2)), (fdiv .f32 x2.2.1 (m_spec_l01Long x2)), (fdiv .f32 x2.2.2 (m_spec_l01Long x2))))))))) else (if
      (flt .f32 0 (fsub .f32 (fmul .f32 x0 x0) (fmul .f32 (fdiv .f32 (fadd .f32 (fsub .f32 (fmul .f32 x0 x0) (fmul .f32 x1 x1)) (fmul .f32 (m_spec_l01Long x2) (m_spec_l01Long x2)))
      (fmul .f32 1073741824 (m_spec_l01Long x2))) (fdiv .f32 (fadd .f32 (fsub .f32 (fmul .f32 x0 x0) (fmul .f32 x1 x1)) (fmul .f32 (m_spec_l01Long x2) (m_spec_l01Long x2))) (fmul
      .f32 1073741824 (m_spec_l01Long x2)))))) = true then ((p_spec_l01Sqrt (fsub .f32 (fmul .f32 x0 x0) (fmul .f32 (fdiv .f32 (fadd .f32 (fsub .f32 (fmul .f32 x0 x0) (fmul .f32 x1
      x1)) (fmul .f32 (m_spec_l01Long x2) (m_spec_l01Long x2))) (fmul .f32 1073741824 (m_spec_l01Long x2))) (fdiv .f32 (fadd .f32 (fsub .f32 (fmul .f32 x0 x0) (fmul .f32 x1 x1))
      (fmul .f32 (m_spec_l01Long x2) (m_spec_l01Long x2))) (fmul .f32 1073741824 (m_spec_l01Long x2)))))) && (p_spec_l01Long (m_spec_l01Less x3 (m_spec_l01Scale ((fdiv .f32 x2.1
      (m_spec_l01Long x2)), (fdiv .f32 x2.2.1 (m_spec_l01Long x2)), (fdiv .f32 x2.2.2 (m_spec_l01Long x2))) (m_spec_l01Inner x3 ((fdiv .f32 x2.1 (m_spec_l01Long x2)), (fdiv .f32
      x2.2.1 (m_spec_l01Long x2)), (fdiv .f32 x2.2.2 (m_spec_l01Long x2)))))))) else ((p_spec_l01Sqrt 0) && (p_spec_l01Long (m_spec_l01Less x3 (m_spec_l01Scale ((fdiv .f32 x2.1
      (m_spec_l01Long x2)), (fdiv .f32 x2.2.1 (m_spec_l01Long x2)), (fdiv .f32 x2.2.2 (m_spec_l01Long x2))) (m_spec_l01Inner x3 ((fdiv .f32 x2.1 (m_spec_l01Long x2)), (fdiv .f32
      x2.2.1 (m_spec_l01Long x2)), (fdiv .f32 x2.2.2 (m_spec_l01Long x2))))))))))))))
def g_spec_TwoBones : List AV → Option AV
  | [.flt .f32 y0, .flt .f32 y1, .agg [.flt .f32 y2, .flt .f32 y3, .flt .f32 y4], .agg [.flt .f32 y5, .flt .f32 y6, .flt .f32 y7]] => if
      p_spec_TwoBones y0 y1 (y2, y3, y4) (y5, y6, y7) = true then some (AV.tup [(AV.agg [(.flt .f32 (m_spec_TwoBones y0 y1 (y2, y3, y4) (y5, y6, y7)).1.1), (.flt .f32
      (m_spec_TwoBones y0 y1 (y2, y3, y4) (y5, y6, y7)).1.2.1), (.flt .f32 (m_spec_TwoBones y0 y1 (y2, y3, y4) (y5, y6, y7)).1.2.2)]), (AV.agg [(.flt .f32 (m_spec_TwoBones y0 y1
      (y2, y3, y4) (y5, y6, y7)).2.1.1), (.flt .f32 (m_spec_TwoBones y0 y1 (y2, y3, y4) (y5, y6, y7)).2.1.2.1), (.flt .f32 (m_spec_TwoBones y0 y1 (y2, y3, y4) (y5, y6,
      y7)).2.1.2.2)]), (.bool (m_spec_TwoBones y0 y1 (y2, y3, y4) (y5, y6, y7)).2.2)]) else none
  | _ => none
def ic11 : ICode := (.seq (.reg [⟨(some 6), none, (.box 3 (.t 2))⟩, ⟨(some 7), none, (.box 3 (.t 3))⟩, ⟨(some 8), none, (.alloc (.agg [(.flt .f32 0), (.flt .f32 0), (.flt .f32
      0)]))⟩, ⟨(some 9), none, (.alloc (.agg [(.flt .f32 0), (.flt .f32 0), (.flt .f32 0)]))⟩, ⟨(some 10), none, (.mov (.c (.bool false)))⟩] [0, 1, 6, 7, 8, 9]) (.seq (.reg [⟨(some
      18), none, (.load (some 3) (.t 6))⟩, ⟨(some 19), none, (.call (.fn 35) [(.t 18)] [])⟩, ⟨(some 11), none, (.mov (.t 19))⟩] [0, 1, 6, 7, 8, 9, 11]) (.seq (.seq (.reg [⟨(some
      20), none, (.mov (.t 0))⟩, ⟨(some 21), none, (.call (.fn 36) [(.t 20)] [])⟩, ⟨(some 22), none, (.un .not (.t 21))⟩, ⟨(some 23), none, (.mov (.t 22))⟩, ⟨(some 24), (some (23,
      false)), (.mov (.t 1))⟩, ⟨(some 25), (some (23, false)), (.call (.fn 36) [(.t 24)] [])⟩, ⟨(some 26), (some (23, false)), (.un .not (.t 25))⟩, ⟨(some 27), none, (.pick (.t 23)
      (.c (.bool true)) (.t 26))⟩, ⟨(some 28), none, (.mov (.t 27))⟩, ⟨(some 29), (some (28, false)), (.mov (.t 11))⟩, ⟨(some 30), (some (28, false)), (.call (.fn 36) [(.t 29)]
      [])⟩, ⟨(some 31), (some (28, false)), (.un .not (.t 30))⟩, ⟨(some 32), none, (.pick (.t 28) (.c (.bool true)) (.t 31))⟩] [0, 1, 6, 7, 8, 9, 11, 32]) (.cond (.t 32) (.seq (.reg
      [⟨(some 33), none, (.build [(.flt .f32 0), (.flt .f32 0), (.flt .f32 0)] [])⟩, ⟨(some 34), none, (.build [(.flt .f32 0), (.flt .f32 0), (.flt .f32 0)] [])⟩, ⟨none, none,
      (.store 3 (.t 8) (.t 33))⟩, ⟨none, none, (.store 3 (.t 9) (.t 34))⟩, ⟨(some 10), none, (.mov (.c (.bool false)))⟩] [8, 9, 10]) .ret) .skip)) (.seq (.reg [⟨(some 35), none,
      (.faddr 0 (.t 6))⟩, ⟨(some 36), none, (.load none (.t 35))⟩, ⟨(some 37), none, (.mov (.t 11))⟩, ⟨(some 38), none, (.bin .quo false (.t 36) (.t 37))⟩, ⟨(some 39), none, (.faddr
      1 (.t 6))⟩, ⟨(some 40), none, (.load none (.t 39))⟩, ⟨(some 41), none, (.mov (.t 11))⟩, ⟨(some 42), none, (.bin .quo false (.t 40) (.t 41))⟩, ⟨(some 43), none, (.faddr 2 (.t
      6))⟩, ⟨(some 44), none, (.load none (.t 43))⟩, ⟨(some 45), none, (.mov (.t 11))⟩, ⟨(some 46), none, (.bin .quo false (.t 44) (.t 45))⟩, ⟨(some 47), none, (.build [(.flt .f32
      0), (.flt .f32 0), (.flt .f32 0)] [(0, 1, (.t 38)), (1, 1, (.t 42)), (2, 1, (.t 46))])⟩, ⟨(some 12), none, (.alloc (.agg [(.flt .f32 0), (.flt .f32 0), (.flt .f32 0)]))⟩,
      ⟨none, none, (.store 3 (.t 12) (.t 47))⟩] [0, 1, 7, 8, 9, 11, 12]) (.seq (.reg [⟨(some 48), none, (.mov (.t 11))⟩, ⟨(some 13), none, (.mov (.t 48))⟩] [0, 1, 7, 8, 9, 12, 13])
      (.seq (.seq (.reg [⟨(some 49), none, (.mov (.t 13))⟩, ⟨(some 50), none, (.mov (.t 0))⟩, ⟨(some 51), none, (.mov (.t 1))⟩, ⟨(some 52), none, (.bin .add false (.t 50) (.t 51))⟩,
      ⟨(some 53), none, (.bin .gtr false (.t 49) (.t 52))⟩] [0, 1, 7, 8, 9, 12, 13, 53]) (.cond (.t 53) (.reg [⟨(some 54), none, (.mov (.t 0))⟩, ⟨(some 55), none, (.mov (.t 1))⟩,
      ⟨(some 56), none, (.bin .add false (.t 54) (.t 55))⟩, ⟨(some 13), none, (.mov (.t 56))⟩] [0, 1, 7, 8, 9, 12, 13]) .skip)) (.seq (.reg [⟨(some 57), none, (.mov (.t 0))⟩, ⟨(some
      58), none, (.mov (.t 0))⟩, ⟨(some 59), none, (.bin .mul false (.t 57) (.t 58))⟩, ⟨(some 60), none, (.mov (.t 1))⟩, ⟨(some 61), none, (.mov (.t 1))⟩, ⟨(some 62), none, (.bin
      .mul false (.t 60) (.t 61))⟩, ⟨(some 63), none, (.bin .sub false (.t 59) (.t 62))⟩, ⟨(some 14), none, (.mov (.t 63))⟩] [0, 7, 8, 9, 12, 13, 14]) (.seq (.reg [⟨(some 64), none,
      (.mov (.t 14))⟩, ⟨(some 65), none, (.mov (.t 13))⟩, ⟨(some 66), none, (.mov (.t 13))⟩, ⟨(some 67), none, (.bin .mul false (.t 65) (.t 66))⟩, ⟨(some 68), none, (.bin .add false
      (.t 64) (.t 67))⟩, ⟨(some 14), none, (.mov (.t 68))⟩] [0, 7, 8, 9, 12, 13, 14]) (.seq (.reg [⟨(some 69), none, (.mov (.t 14))⟩, ⟨(some 70), none, (.mov (.t 13))⟩, ⟨(some 71),
      none, (.bin .mul false (.c (.flt .f32 1073741824)) (.t 70))⟩, ⟨(some 72), none, (.bin .quo false (.t 69) (.t 71))⟩, ⟨(some 14), none, (.mov (.t 72))⟩] [0, 7, 8, 9, 12, 13,
      14]) (.seq (.reg [⟨(some 73), none, (.mov (.t 0))⟩, ⟨(some 74), none, (.mov (.t 0))⟩, ⟨(some 75), none, (.bin .mul false (.t 73) (.t 74))⟩, ⟨(some 76), none, (.mov (.t 14))⟩,
      ⟨(some 77), none, (.mov (.t 14))⟩, ⟨(some 78), none, (.bin .mul false (.t 76) (.t 77))⟩, ⟨(some 79), none, (.bin .sub false (.t 75) (.t 78))⟩, ⟨(some 15), none, (.mov (.t
      79))⟩] [7, 8, 9, 12, 13, 14, 15]) (.seq (.seq (.reg [⟨(some 80), none, (.mov (.t 15))⟩, ⟨(some 81), none, (.bin .gtr false (.t 80) (.c (.flt .f32 0)))⟩, ⟨(some 82), none, (.un
      .not (.t 81))⟩] [7, 8, 9, 12, 13, 14, 15, 82]) (.cond (.t 82) (.reg [⟨(some 15), none, (.mov (.c (.flt .f32 0)))⟩] [7, 8, 9, 12, 13, 14, 15]) .skip)) (.seq (.reg [⟨(some 83),
      none, (.mov (.t 15))⟩, ⟨(some 84), none, (.call (.fn 37) [(.t 83)] [])⟩, ⟨(some 15), none, (.mov (.t 84))⟩] [7, 8, 9, 12, 13, 14, 15]) (.seq (.reg [⟨(some 85), none, (.load
      (some 3) (.t 7))⟩, ⟨(some 86), none, (.load (some 3) (.t 12))⟩, ⟨(some 87), none, (.load (some 3) (.t 7))⟩, ⟨(some 88), none, (.load (some 3) (.t 12))⟩, ⟨(some 89), none,
      (.call (.fn 40) [(.t 87), (.t 88)] [])⟩, ⟨(some 90), none, (.call (.fn 39) [(.t 86), (.t 89)] [])⟩, ⟨(some 91), none, (.call (.fn 38) [(.t 85), (.t 90)] [])⟩, ⟨(some 16),
      none, (.alloc (.agg [(.flt .f32 0), (.flt .f32 0), (.flt .f32 0)]))⟩, ⟨none, none, (.store 3 (.t 16) (.t 91))⟩] [8, 9, 12, 13, 14, 15, 16]) (.seq (.reg [⟨(some 92), none,
      (.load (some 3) (.t 16))⟩, ⟨(some 93), none, (.call (.fn 35) [(.t 92)] [])⟩, ⟨(some 17), none, (.mov (.t 93))⟩] [8, 9, 12, 13, 14, 15, 16, 17]) (.seq (.seq (.reg [⟨(some 94),
      none, (.mov (.t 17))⟩, ⟨(some 95), none, (.call (.fn 36) [(.t 94)] [])⟩, ⟨(some 96), none, (.un .not (.t 95))⟩] [8, 9, 12, 13, 14, 15, 16, 17, 96]) (.cond (.t 96) (.seq (.reg
      [⟨(some 97), none, (.build [(.flt .f32 0), (.flt .f32 0), (.flt .f32 0)] [])⟩, ⟨(some 98), none, (.build [(.flt .f32 0), (.flt .f32 0), (.flt .f32 0)] [])⟩, ⟨none, none,
      (.store 3 (.t 8) (.t 97))⟩, ⟨none, none, (.store 3 (.t 9) (.t 98))⟩, ⟨(some 10), none, (.mov (.c (.bool false)))⟩] [8, 9, 10]) .ret) .skip)) (.seq (.reg [⟨(some 99), none,
      (.faddr 0 (.t 16))⟩, ⟨(some 100), none, (.load none (.t 99))⟩, ⟨(some 101), none, (.mov (.t 17))⟩, ⟨(some 102), none, (.bin .quo false (.t 100) (.t 101))⟩, ⟨(some 103), none,
      (.faddr 1 (.t 16))⟩, ⟨(some 104), none, (.load none (.t 103))⟩, ⟨(some 105), none, (.mov (.t 17))⟩, ⟨(some 106), none, (.bin .quo false (.t 104) (.t 105))⟩, ⟨(some 107), none,
      (.faddr 2 (.t 16))⟩, ⟨(some 108), none, (.load none (.t 107))⟩, ⟨(some 109), none, (.mov (.t 17))⟩, ⟨(some 110), none, (.bin .quo false (.t 108) (.t 109))⟩, ⟨(some 111), none,
      (.build [(.flt .f32 0), (.flt .f32 0), (.flt .f32 0)] [(0, 1, (.t 102)), (1, 1, (.t 106)), (2, 1, (.t 110))])⟩, ⟨none, none, (.store 3 (.t 16) (.t 111))⟩] [8, 9, 12, 13, 14,
      15, 16]) (.seq (.reg [⟨(some 112), none, (.load (some 3) (.t 12))⟩, ⟨(some 113), none, (.mov (.t 14))⟩, ⟨(some 114), none, (.call (.fn 39) [(.t 112), (.t 113)] [])⟩, ⟨(some
      115), none, (.load (some 3) (.t 16))⟩, ⟨(some 116), none, (.mov (.t 15))⟩, ⟨(some 117), none, (.call (.fn 39) [(.t 115), (.t 116)] [])⟩, ⟨(some 118), none, (.call (.fn 41)
      [(.t 114), (.t 117)] [])⟩, ⟨(some 119), none, (.load (some 3) (.t 12))⟩, ⟨(some 120), none, (.mov (.t 13))⟩, ⟨(some 121), none, (.call (.fn 39) [(.t 119), (.t 120)] [])⟩,
      ⟨none, none, (.store 3 (.t 8) (.t 118))⟩, ⟨none, none, (.store 3 (.t 9) (.t 121))⟩, ⟨(some 10), none, (.mov (.c (.bool true)))⟩] [8, 9, 10]) .ret)))))))))))))))))
def cp11 : CP := { n := 122, kp := [[0, 1, 6, 7, 8, 9], [0, 1, 6, 7, 8, 9, 11], [0, 1, 6, 7, 8, 9, 11, 32], [8, 9, 10], [0, 1, 7, 8, 9, 11, 12], [0, 1, 7, 8, 9, 12, 13], [0, 1, 7,
      8, 9, 12, 13, 53], [0, 1, 7, 8, 9, 12, 13], [0, 7, 8, 9, 12, 13, 14], [0, 7, 8, 9, 12, 13, 14], [0, 7, 8, 9, 12, 13, 14], [7, 8, 9, 12, 13, 14, 15], [7, 8, 9, 12, 13, 14, 15,
      82], [7, 8, 9, 12, 13, 14, 15], [7, 8, 9, 12, 13, 14, 15], [8, 9, 12, 13, 14, 15, 16], [8, 9, 12, 13, 14, 15, 16, 17], [8, 9, 12, 13, 14, 15, 16, 17, 96], [8, 9, 10], [8, 9,
      12, 13, 14, 15, 16], [8, 9, 10]] }
theorem s11 : ∀ vs r, g_spec_TwoBones vs = some r → Says Try.prog 11 vs r := by
  intro vs r h
  unfold g_spec_TwoBones at h
  split at h
  · rename_i y0 y1 y2 y3 y4 y5 y6 y7
    split at h
    · rename_i hp
      cases h
      refine spec_of (tab := tabOf [(35, g_spec_l01Long), (36, g_spec_l04Length), (37, g_spec_l01Sqrt), (38, g_spec_l01Less), (39, g_spec_l01Scale), (40, g_spec_l01Inner), (41, g_spec_l01Add)]) (cp := cp11) (ic := ic11) (rvl := [(.c 8 (some 3)), (.c 9 (some 3)), (.t 10)]) hm (tabOk_cons s35 (tabOk_cons s36 (tabOk_cons s37 (tabOk_cons s38 (tabOk_cons s39 (tabOk_cons s40 (tabOk_cons s41 tabOk_nil))))))) Try.func11 rfl rfl rfl (by kernel_rfl) rfl (Nat.le_of_ble_eq_true rfl) ?_
      show eA _ _ _ _
      unfold ic11
      simp only [p_spec_TwoBones, Bool.and_eq_true, Bool.or_eq_true, decide_eq_true_eq, Bool.not_eq_true', decide_eq_false_iff_not] at hp
      simp only [
          hp, eA_seq, eA_reg, eA_ret, eA_skip, eA_cond, eA_block, eA_exit, eCc_true, eCc_false, Kq_normal, Kq_ret, Kq_exit, Kb_normal, Kb_exit, Kb_ret, Kreg_eq, eI_nil, bindSt_some,
                bindSt_none, bindSt_ite, eR_eq, eGI_tt, eGI_ff, eGI_tf, eGI_ft, eop, vop, ev_t, ev_c, ev_f, Option.map, put_some, put_none, set_eq, setH_eq, get_eq, hp_eq,
                keep_cons, keep_nil, lk_cons, lk_nil, startSt, envOf, reduceIte, Nat.reduceEqDiff, Nat.reduceAdd, Nat.zero_add, Nat.add_zero, Nat.reduceMul, Nat.reduceLT,
                Nat.reduceLeDiff, bop, uop, intop, fltop, convop, true_or, or_true, Bool.false_eq_true, ret_ok, ret_normal, outV, rvV, rvs, ex_some, pureV, pureX, pureX.pure1',
                pure1, Bool.true_and, Bool.false_and, Bool.and_true, Bool.and_false, Option.isNone_none, AV.cells, AV.one, storable, laid, refless, refless1, List.all_cons,
                List.all_nil, List.length_cons, List.length_nil, List.getElem?_cons_zero, List.getElem?_cons_succ, List.set_cons_zero, List.set_cons_succ, List.set_nil,
                List.map_cons, List.map_nil, vload, loadC, storeC, vnil, vfaddr, vextract, callTo, List.mapM_cons, List.mapM_nil, Option.pure_def, Option.bind_eq_bind,
                Option.bind_some, tabOf_cons, flatT, flatE, flatC, and_self, and_true, true_and, implies_true, forall_const, not_true_eq_false, not_false_eq_true, false_implies,
                List.take_succ_cons, List.drop_succ_cons, List.take_zero, List.drop_zero, Bool.not_true, Bool.not_false, beq_self_eq_true, decide_true, decide_false, eq_self,
                Int.reduceEq, Int.reduceLE, Int.reduceLT, Bool.not_not, Bool.true_or, Bool.or_true, Bool.false_or, Bool.or_false, if_true, if_false, List.getElem?_nil, Kl_normal,
                Kl_exit, Kl_ret, bits_i64, cast_lit, toNat_lit, Int.reduceAdd, Int.reduceSub, Int.reduceMul, Int.reduceNeg, Int.reducePow, Nat.reducePow, Int.reduceToNat,
                Nat.reduceSub, Nat.mul_one, Int.toNat_zero, prod_eta, List.nil_append, List.cons_append, List.append_nil, vconv, vmm, vidxA, viaddrA, iaddr_sl, iaddr_lsl, getE,
                vfield, vlen, fillC, fillE, List.replicate, elemsOf, List.length_map, f2iK_eq, bits_i64, bits_i32, bits_u64, bits_u32, bits_u8, e_mov, g_mov, e_pick, g_pick,
                e_alloc, g_alloc, e_box, g_box, e_build, g_build, e_load, g_load, e_store, g_store, e_bin, g_bin, e_un, g_un, e_faddr, g_faddr, e_call, g_call, g_spec_l01Long,
                g_spec_l04Length, g_spec_l01Sqrt, g_spec_l01Less, g_spec_l01Scale, g_spec_l01Inner, g_spec_l01Add, ↓b_pick, ePk_true, ePk_false]
      repeat' (first
        | ((first | (refine eGI_of (fun h => ?_) (fun h => ?_)) | (refine eCc_of (fun h => ?_) (fun h => ?_)) | (refine ePk_of (fun h => ?_) (fun h => ?_))) <;> (try simp only [Bool.not_eq_true', Bool.not_eq_false'] at h) <;> (try simp only [h, reduceCtorEq, Bool.not_eq_true', decide_eq_false_iff_not, Bool.not_true, Bool.not_false, Bool.false_or, Bool.true_or, Bool.true_and, Bool.false_and, Bool.and_eq_true, Bool.or_eq_true, if_true, if_false, reduceIte, Bool.false_eq_true, and_true, true_and, false_or, or_false, decide_eq_true_eq, not_false_eq_true, not_true_eq_false] at hp) <;> (try (have h2 := h; simp only [decide_eq_true_eq, decide_eq_false_iff_not] at h2; simp only [h2, if_true, if_false, false_or, true_or, or_true, or_false, and_true, true_and, not_false_eq_true, not_true_eq_false] at hp)) <;> simp only [h,
          hp, eA_seq, eA_reg, eA_ret, eA_skip, eA_cond, eA_block, eA_exit, eCc_true, eCc_false, Kq_normal, Kq_ret, Kq_exit, Kb_normal, Kb_exit, Kb_ret, Kreg_eq, eI_nil, bindSt_some,
                bindSt_none, bindSt_ite, eR_eq, eGI_tt, eGI_ff, eGI_tf, eGI_ft, eop, vop, ev_t, ev_c, ev_f, Option.map, put_some, put_none, set_eq, setH_eq, get_eq, hp_eq,
                keep_cons, keep_nil, lk_cons, lk_nil, startSt, envOf, reduceIte, Nat.reduceEqDiff, Nat.reduceAdd, Nat.zero_add, Nat.add_zero, Nat.reduceMul, Nat.reduceLT,
                Nat.reduceLeDiff, bop, uop, intop, fltop, convop, true_or, or_true, Bool.false_eq_true, ret_ok, ret_normal, outV, rvV, rvs, ex_some, pureV, pureX, pureX.pure1',
                pure1, Bool.true_and, Bool.false_and, Bool.and_true, Bool.and_false, Option.isNone_none, AV.cells, AV.one, storable, laid, refless, refless1, List.all_cons,
                List.all_nil, List.length_cons, List.length_nil, List.getElem?_cons_zero, List.getElem?_cons_succ, List.set_cons_zero, List.set_cons_succ, List.set_nil,
                List.map_cons, List.map_nil, vload, loadC, storeC, vnil, vfaddr, vextract, callTo, List.mapM_cons, List.mapM_nil, Option.pure_def, Option.bind_eq_bind,
                Option.bind_some, tabOf_cons, flatT, flatE, flatC, and_self, and_true, true_and, implies_true, forall_const, not_true_eq_false, not_false_eq_true, false_implies,
                List.take_succ_cons, List.drop_succ_cons, List.take_zero, List.drop_zero, Bool.not_true, Bool.not_false, beq_self_eq_true, decide_true, decide_false, eq_self,
                Int.reduceEq, Int.reduceLE, Int.reduceLT, Bool.not_not, Bool.true_or, Bool.or_true, Bool.false_or, Bool.or_false, if_true, if_false, List.getElem?_nil, Kl_normal,
                Kl_exit, Kl_ret, bits_i64, cast_lit, toNat_lit, Int.reduceAdd, Int.reduceSub, Int.reduceMul, Int.reduceNeg, Int.reducePow, Nat.reducePow, Int.reduceToNat,
                Nat.reduceSub, Nat.mul_one, Int.toNat_zero, prod_eta, List.nil_append, List.cons_append, List.append_nil, vconv, vmm, vidxA, viaddrA, iaddr_sl, iaddr_lsl, getE,
                vfield, vlen, fillC, fillE, List.replicate, elemsOf, List.length_map, f2iK_eq, bits_i64, bits_i32, bits_u64, bits_u32, bits_u8, e_mov, g_mov, e_pick, g_pick,
                e_alloc, g_alloc, e_box, g_box, e_build, g_build, e_load, g_load, e_store, g_store, e_bin, g_bin, e_un, g_un, e_faddr, g_faddr, e_call, g_call, g_spec_l01Long,
                g_spec_l04Length, g_spec_l01Sqrt, g_spec_l01Less, g_spec_l01Scale, g_spec_l01Inner, g_spec_l01Add, ↓b_pick, ePk_true, ePk_false]))
      all_goals (try simp only [*, m_spec_TwoBones, Bool.and_true, Bool.true_and, Bool.and_false, Bool.false_and, Bool.or_true, Bool.true_or, Bool.or_false, Bool.false_or, Bool.not_true, Bool.not_false, Bool.false_eq_true, if_true, if_false, reduceIte, decide_true, decide_false])
      all_goals (try (simp_all; done))
    · cases h
  · cases h
def m_impl_InnerOf (x0 : (Nat × Nat × Nat)) (x1 : (Nat × Nat × Nat)) : Nat := (fadd .f32 (fadd .f32 (fmul .f32 x0.1 x1.1) (fmul .f32 x0.2.1 x1.2.1)) (fmul .f32 x0.2.2 x1.2.2))
def g_impl_InnerOf : List AV → Option AV
  | [.agg [.flt .f32 y0, .flt .f32 y1, .flt .f32 y2], .agg [.flt .f32 y3, .flt .f32 y4, .flt .f32 y5]] => some (.flt .f32 (m_impl_InnerOf
      (y0, y1, y2) (y3, y4, y5)))
  | _ => none
def ic49 : ICode := (.seq (.reg [⟨(some 2), none, (.box 3 (.t 0))⟩, ⟨(some 3), none, (.box 3 (.t 1))⟩, ⟨(some 4), none, (.mov (.c (.flt .f32 0)))⟩] [2, 3]) (.seq (.reg [⟨(some 5),
      none, (.faddr 0 (.t 2))⟩, ⟨(some 6), none, (.load none (.t 5))⟩, ⟨(some 7), none, (.faddr 0 (.t 3))⟩, ⟨(some 8), none, (.load none (.t 7))⟩, ⟨(some 9), none, (.bin .mul false
      (.t 6) (.t 8))⟩, ⟨(some 10), none, (.faddr 1 (.t 2))⟩, ⟨(some 11), none, (.load none (.t 10))⟩, ⟨(some 12), none, (.faddr 1 (.t 3))⟩, ⟨(some 13), none, (.load none (.t 12))⟩,
      ⟨(some 14), none, (.bin .mul false (.t 11) (.t 13))⟩, ⟨(some 15), none, (.bin .add false (.t 9) (.t 14))⟩, ⟨(some 16), none, (.faddr 2 (.t 2))⟩, ⟨(some 17), none, (.load none
      (.t 16))⟩, ⟨(some 18), none, (.faddr 2 (.t 3))⟩, ⟨(some 19), none, (.load none (.t 18))⟩, ⟨(some 20), none, (.bin .mul false (.t 17) (.t 19))⟩, ⟨(some 21), none, (.bin .add
      false (.t 15) (.t 20))⟩, ⟨(some 4), none, (.mov (.t 21))⟩] [4]) .ret))
def cp49 : CP := { n := 22, kp := [[2, 3], [4]] }
theorem s49 : ∀ vs r, g_impl_InnerOf vs = some r → Says Try.prog 49 vs r := by
  intro vs r h
  unfold g_impl_InnerOf at h
  split at h
  · rename_i y0 y1 y2 y3 y4 y5
    cases h
    refine spec_of (tab := tabOf []) (cp := cp49) (ic := ic49) (rvl := [(.t 4)]) hm tabOk_nil Try.func49 rfl rfl rfl (by kernel_rfl) rfl (Nat.le_of_ble_eq_true rfl) ?_
    show eA _ _ _ _
    unfold ic49
    simp only [
        eA_seq, eA_reg, eA_ret, eA_skip, eA_cond, eA_block, eA_exit, eCc_true, eCc_false, Kq_normal, Kq_ret, Kq_exit, Kb_normal, Kb_exit, Kb_ret, Kreg_eq, eI_nil, bindSt_some,
              bindSt_none, bindSt_ite, eR_eq, eGI_tt, eGI_ff, eGI_tf, eGI_ft, eop, vop, ev_t, ev_c, ev_f, Option.map, put_some, put_none, set_eq, setH_eq, get_eq, hp_eq, keep_cons,
              keep_nil, lk_cons, lk_nil, startSt, envOf, reduceIte, Nat.reduceEqDiff, Nat.reduceAdd, Nat.zero_add, Nat.add_zero, Nat.reduceMul, Nat.reduceLT, Nat.reduceLeDiff, bop,
              uop, intop, fltop, convop, true_or, or_true, Bool.false_eq_true, ret_ok, ret_normal, outV, rvV, rvs, ex_some, pureV, pureX, pureX.pure1', pure1, Bool.true_and,
              Bool.false_and, Bool.and_true, Bool.and_false, Option.isNone_none, AV.cells, AV.one, storable, laid, refless, refless1, List.all_cons, List.all_nil, List.length_cons,
              List.length_nil, List.getElem?_cons_zero, List.getElem?_cons_succ, List.set_cons_zero, List.set_cons_succ, List.set_nil, List.map_cons, List.map_nil, vload, loadC,
              storeC, vnil, vfaddr, vextract, callTo, List.mapM_cons, List.mapM_nil, Option.pure_def, Option.bind_eq_bind, Option.bind_some, tabOf_cons, flatT, flatE, flatC,
              and_self, and_true, true_and, implies_true, forall_const, not_true_eq_false, not_false_eq_true, false_implies, List.take_succ_cons, List.drop_succ_cons,
              List.take_zero, List.drop_zero, Bool.not_true, Bool.not_false, beq_self_eq_true, decide_true, decide_false, eq_self, Int.reduceEq, Int.reduceLE, Int.reduceLT,
              Bool.not_not, Bool.true_or, Bool.or_true, Bool.false_or, Bool.or_false, if_true, if_false, List.getElem?_nil, Kl_normal, Kl_exit, Kl_ret, bits_i64, cast_lit,
              toNat_lit, Int.reduceAdd, Int.reduceSub, Int.reduceMul, Int.reduceNeg, Int.reducePow, Nat.reducePow, Int.reduceToNat, Nat.reduceSub, Nat.mul_one, Int.toNat_zero,
              prod_eta, List.nil_append, List.cons_append, List.append_nil, vconv, vmm, vidxA, viaddrA, iaddr_sl, iaddr_lsl, getE, vfield, vlen, fillC, fillE, List.replicate,
              elemsOf, List.length_map, f2iK_eq, bits_i64, bits_i32, bits_u64, bits_u32, bits_u8, e_mov, g_mov, e_box, g_box, e_load, g_load, e_bin, g_bin, e_faddr, g_faddr]
    repeat' (first
      | ((first | (refine eGI_of (fun h => ?_) (fun h => ?_)) | (refine eCc_of (fun h => ?_) (fun h => ?_))) <;> (try simp only [Bool.not_eq_true', Bool.not_eq_false'] at h) <;> simp only [h,
        eA_seq, eA_reg, eA_ret, eA_skip, eA_cond, eA_block, eA_exit, eCc_true, eCc_false, Kq_normal, Kq_ret, Kq_exit, Kb_normal, Kb_exit, Kb_ret, Kreg_eq, eI_nil, bindSt_some,
              bindSt_none, bindSt_ite, eR_eq, eGI_tt, eGI_ff, eGI_tf, eGI_ft, eop, vop, ev_t, ev_c, ev_f, Option.map, put_some, put_none, set_eq, setH_eq, get_eq, hp_eq, keep_cons,
              keep_nil, lk_cons, lk_nil, startSt, envOf, reduceIte, Nat.reduceEqDiff, Nat.reduceAdd, Nat.zero_add, Nat.add_zero, Nat.reduceMul, Nat.reduceLT, Nat.reduceLeDiff, bop,
              uop, intop, fltop, convop, true_or, or_true, Bool.false_eq_true, ret_ok, ret_normal, outV, rvV, rvs, ex_some, pureV, pureX, pureX.pure1', pure1, Bool.true_and,
              Bool.false_and, Bool.and_true, Bool.and_false, Option.isNone_none, AV.cells, AV.one, storable, laid, refless, refless1, List.all_cons, List.all_nil, List.length_cons,
              List.length_nil, List.getElem?_cons_zero, List.getElem?_cons_succ, List.set_cons_zero, List.set_cons_succ, List.set_nil, List.map_cons, List.map_nil, vload, loadC,
              storeC, vnil, vfaddr, vextract, callTo, List.mapM_cons, List.mapM_nil, Option.pure_def, Option.bind_eq_bind, Option.bind_some, tabOf_cons, flatT, flatE, flatC,
              and_self, and_true, true_and, implies_true, forall_const, not_true_eq_false, not_false_eq_true, false_implies, List.take_succ_cons, List.drop_succ_cons,
              List.take_zero, List.drop_zero, Bool.not_true, Bool.not_false, beq_self_eq_true, decide_true, decide_false, eq_self, Int.reduceEq, Int.reduceLE, Int.reduceLT,
              Bool.not_not, Bool.true_or, Bool.or_true, Bool.false_or, Bool.or_false, if_true, if_false, List.getElem?_nil, Kl_normal, Kl_exit, Kl_ret, bits_i64, cast_lit,
              toNat_lit, Int.reduceAdd, Int.reduceSub, Int.reduceMul, Int.reduceNeg, Int.reducePow, Nat.reducePow, Int.reduceToNat, Nat.reduceSub, Nat.mul_one, Int.toNat_zero,
              prod_eta, List.nil_append, List.cons_append, List.append_nil, vconv, vmm, vidxA, viaddrA, iaddr_sl, iaddr_lsl, getE, vfield, vlen, fillC, fillE, List.replicate,
              elemsOf, List.length_map, f2iK_eq, bits_i64, bits_i32, bits_u64, bits_u32, bits_u8, e_mov, g_mov, e_box, g_box, e_load, g_load, e_bin, g_bin, e_faddr, g_faddr]))
    all_goals (try simp only [*, m_impl_InnerOf, Bool.and_true, Bool.true_and, Bool.and_false, Bool.false_and, Bool.or_true, Bool.true_or, Bool.or_false, Bool.false_or, Bool.not_true, Bool.not_false, Bool.false_eq_true, if_true, if_false, reduceIte, decide_true, decide_false])
    all_goals (try (simp_all; done))
  · cases h
def m_impl_RootNumber (x0 : Nat) : Nat := (narrow (m_math_Sqrt (widen x0)))
def p_impl_RootNumber (x0 : Nat) : Bool := (narrowOk (m_math_Sqrt (widen x0)))
def g_impl_RootNumber : List AV → Option AV
  | [.flt .f32 y0] => if p_impl_RootNumber y0 = true then some (.flt .f32 (m_impl_RootNumber y0)) else none
  | _ => none
def ic46 : ICode := (.seq (.reg [⟨(some 2), none, (.mov (.c (.flt .f32 0)))⟩] [0]) (.seq (.reg [⟨(some 3), none, (.mov (.t 0))⟩, ⟨(some 4), none, (.conv (.flt .f64) (.t 3))⟩, ⟨(some
      5), none, (.call (.fn 53) [(.t 4)] [])⟩, ⟨(some 6), none, (.conv (.flt .f32) (.t 5))⟩, ⟨(some 2), none, (.mov (.t 6))⟩] [2]) .ret))
def cp46 : CP := { n := 7, kp := [[0], [2]] }
theorem s46 : ∀ vs r, g_impl_RootNumber vs = some r → Says Try.prog 46 vs r := by
  intro vs r h
  unfold g_impl_RootNumber at h
  split at h
  · rename_i y0
    split at h
    · rename_i hp
      cases h
      refine spec_of (tab := tabOf [(53, g_math_Sqrt)]) (cp := cp46) (ic := ic46) (rvl := [(.t 2)]) hm (tabOk_cons s53 tabOk_nil) Try.func46 rfl rfl rfl (by kernel_rfl) rfl (Nat.le_of_ble_eq_true rfl) ?_
      show eA _ _ _ _
      unfold ic46
      simp only [p_impl_RootNumber, Bool.and_eq_true, Bool.or_eq_true, decide_eq_true_eq, Bool.not_eq_true', decide_eq_false_iff_not] at hp
      simp only [
          hp, eA_seq, eA_reg, eA_ret, eA_skip, eA_cond, eA_block, eA_exit, eCc_true, eCc_false, Kq_normal, Kq_ret, Kq_exit, Kb_normal, Kb_exit, Kb_ret, Kreg_eq, eI_nil, bindSt_some,
                bindSt_none, bindSt_ite, eR_eq, eGI_tt, eGI_ff, eGI_tf, eGI_ft, eop, vop, ev_t, ev_c, ev_f, Option.map, put_some, put_none, set_eq, setH_eq, get_eq, hp_eq,
                keep_cons, keep_nil, lk_cons, lk_nil, startSt, envOf, reduceIte, Nat.reduceEqDiff, Nat.reduceAdd, Nat.zero_add, Nat.add_zero, Nat.reduceMul, Nat.reduceLT,
                Nat.reduceLeDiff, bop, uop, intop, fltop, convop, true_or, or_true, Bool.false_eq_true, ret_ok, ret_normal, outV, rvV, rvs, ex_some, pureV, pureX, pureX.pure1',
                pure1, Bool.true_and, Bool.false_and, Bool.and_true, Bool.and_false, Option.isNone_none, AV.cells, AV.one, storable, laid, refless, refless1, List.all_cons,
                List.all_nil, List.length_cons, List.length_nil, List.getElem?_cons_zero, List.getElem?_cons_succ, List.set_cons_zero, List.set_cons_succ, List.set_nil,
                List.map_cons, List.map_nil, vload, loadC, storeC, vnil, vfaddr, vextract, callTo, List.mapM_cons, List.mapM_nil, Option.pure_def, Option.bind_eq_bind,
                Option.bind_some, tabOf_cons, flatT, flatE, flatC, and_self, and_true, true_and, implies_true, forall_const, not_true_eq_false, not_false_eq_true, false_implies,
                List.take_succ_cons, List.drop_succ_cons, List.take_zero, List.drop_zero, Bool.not_true, Bool.not_false, beq_self_eq_true, decide_true, decide_false, eq_self,
                Int.reduceEq, Int.reduceLE, Int.reduceLT, Bool.not_not, Bool.true_or, Bool.or_true, Bool.false_or, Bool.or_false, if_true, if_false, List.getElem?_nil, Kl_normal,
                Kl_exit, Kl_ret, bits_i64, cast_lit, toNat_lit, Int.reduceAdd, Int.reduceSub, Int.reduceMul, Int.reduceNeg, Int.reducePow, Nat.reducePow, Int.reduceToNat,
                Nat.reduceSub, Nat.mul_one, Int.toNat_zero, prod_eta, List.nil_append, List.cons_append, List.append_nil, vconv, vmm, vidxA, viaddrA, iaddr_sl, iaddr_lsl, getE,
                vfield, vlen, fillC, fillE, List.replicate, elemsOf, List.length_map, f2iK_eq, bits_i64, bits_i32, bits_u64, bits_u32, bits_u8, e_mov, g_mov, e_conv, g_conv, e_call,
                g_call, g_math_Sqrt]
      repeat' (first
        | ((first | (refine eGI_of (fun h => ?_) (fun h => ?_)) | (refine eCc_of (fun h => ?_) (fun h => ?_))) <;> (try simp only [Bool.not_eq_true', Bool.not_eq_false'] at h) <;> (try simp only [h, reduceCtorEq, Bool.not_eq_true', decide_eq_false_iff_not, Bool.not_true, Bool.not_false, Bool.false_or, Bool.true_or, Bool.true_and, Bool.false_and, Bool.and_eq_true, Bool.or_eq_true, if_true, if_false, reduceIte, Bool.false_eq_true, and_true, true_and, false_or, or_false, decide_eq_true_eq, not_false_eq_true, not_true_eq_false] at hp) <;> (try (have h2 := h; simp only [decide_eq_true_eq, decide_eq_false_iff_not] at h2; simp only [h2, if_true, if_false, false_or, true_or, or_true, or_false, and_true, true_and, not_false_eq_true, not_true_eq_false] at hp)) <;> simp only [h,
          hp, eA_seq, eA_reg, eA_ret, eA_skip, eA_cond, eA_block, eA_exit, eCc_true, eCc_false, Kq_normal, Kq_ret, Kq_exit, Kb_normal, Kb_exit, Kb_ret, Kreg_eq, eI_nil, bindSt_some,
                bindSt_none, bindSt_ite, eR_eq, eGI_tt, eGI_ff, eGI_tf, eGI_ft, eop, vop, ev_t, ev_c, ev_f, Option.map, put_some, put_none, set_eq, setH_eq, get_eq, hp_eq,
                keep_cons, keep_nil, lk_cons, lk_nil, startSt, envOf, reduceIte, Nat.reduceEqDiff, Nat.reduceAdd, Nat.zero_add, Nat.add_zero, Nat.reduceMul, Nat.reduceLT,
                Nat.reduceLeDiff, bop, uop, intop, fltop, convop, true_or, or_true, Bool.false_eq_true, ret_ok, ret_normal, outV, rvV, rvs, ex_some, pureV, pureX, pureX.pure1',
                pure1, Bool.true_and, Bool.false_and, Bool.and_true, Bool.and_false, Option.isNone_none, AV.cells, AV.one, storable, laid, refless, refless1, List.all_cons,
                List.all_nil, List.length_cons, List.length_nil, List.getElem?_cons_zero, List.getElem?_cons_succ, List.set_cons_zero, List.set_cons_succ, List.set_nil,
                List.map_cons, List.map_nil, vload, loadC, storeC, vnil, vfaddr, vextract, callTo, List.mapM_cons, List.mapM_nil, Option.pure_def, Option.bind_eq_bind,
                Option.bind_some, tabOf_cons, flatT, flatE, flatC, and_self, and_true, true_and, implies_true, forall_const, not_true_eq_false, not_false_eq_true, false_implies,
                List.take_succ_cons, List.drop_succ_cons, List.take_zero, List.drop_zero, Bool.not_true, Bool.not_false, beq_self_eq_true, decide_true, decide_false, eq_self,
                Int.reduceEq, Int.reduceLE, Int.reduceLT, Bool.not_not, Bool.true_or, Bool.or_true, Bool.false_or, Bool.or_false, if_true, if_false, List.getElem?_nil, Kl_normal,
                Kl_exit, Kl_ret, bits_i64, cast_lit, toNat_lit, Int.reduceAdd, Int.reduceSub, Int.reduceMul, Int.reduceNeg, Int.reducePow, Nat.reducePow, Int.reduceToNat,
                Nat.reduceSub, Nat.mul_one, Int.toNat_zero, prod_eta, List.nil_append, List.cons_append, List.append_nil, vconv, vmm, vidxA, viaddrA, iaddr_sl, iaddr_lsl, getE,
                vfield, vlen, fillC, fillE, List.replicate, elemsOf, List.length_map, f2iK_eq, bits_i64, bits_i32, bits_u64, bits_u32, bits_u8, e_mov, g_mov, e_conv, g_conv, e_call,
                g_call, g_math_Sqrt]))
      all_goals (try simp only [*, m_impl_RootNumber, Bool.and_true, Bool.true_and, Bool.and_false, Bool.false_and, Bool.or_true, Bool.true_or, Bool.or_false, Bool.false_or, Bool.not_true, Bool.not_false, Bool.false_eq_true, if_true, if_false, reduceIte, decide_true, decide_false])
      all_goals (try (simp_all; done))
    · cases h
  · cases h
def m_impl_LongOf (x0 : (Nat × Nat × Nat)) : Nat := (m_impl_RootNumber (m_impl_InnerOf x0 x0))
def p_impl_LongOf (x0 : (Nat × Nat × Nat)) : Bool := (p_impl_RootNumber (m_impl_InnerOf x0 x0))
def g_impl_LongOf : List AV → Option AV
  | [.agg [.flt .f32 y0, .flt .f32 y1, .flt .f32 y2]] => if p_impl_LongOf (y0, y1, y2) = true then some (.flt .f32 (m_impl_LongOf (y0, y1,
      y2))) else none
  | _ => none
def ic42 : ICode := (.seq (.reg [⟨(some 1), none, (.box 3 (.t 0))⟩, ⟨(some 2), none, (.mov (.c (.flt .f32 0)))⟩] [1]) (.seq (.reg [⟨(some 3), none, (.load (some 3) (.t 1))⟩, ⟨(some
      4), none, (.load (some 3) (.t 1))⟩, ⟨(some 5), none, (.call (.fn 49) [(.t 3), (.t 4)] [])⟩, ⟨(some 6), none, (.call (.fn 46) [(.t 5)] [])⟩, ⟨(some 2), none, (.mov (.t 6))⟩]
      [2]) .ret))
def cp42 : CP := { n := 7, kp := [[1], [2]] }
theorem s42 : ∀ vs r, g_impl_LongOf vs = some r → Says Try.prog 42 vs r := by
  intro vs r h
  unfold g_impl_LongOf at h
  split at h
  · rename_i y0 y1 y2
    split at h
    · rename_i hp
      cases h
      refine spec_of (tab := tabOf [(46, g_impl_RootNumber), (49, g_impl_InnerOf)]) (cp := cp42) (ic := ic42) (rvl := [(.t 2)]) hm (tabOk_cons s46 (tabOk_cons s49 tabOk_nil)) Try.func42 rfl rfl rfl (by kernel_rfl) rfl (Nat.le_of_ble_eq_true rfl) ?_
      show eA _ _ _ _
      unfold ic42
      simp only [p_impl_LongOf, Bool.and_eq_true, Bool.or_eq_true, decide_eq_true_eq, Bool.not_eq_true', decide_eq_false_iff_not] at hp
      simp only [
          hp, eA_seq, eA_reg, eA_ret, eA_skip, eA_cond, eA_block, eA_exit, eCc_true, eCc_false, Kq_normal, Kq_ret, Kq_exit, Kb_normal, Kb_exit, Kb_ret, Kreg_eq, eI_nil, bindSt_some,
                bindSt_none, bindSt_ite, eR_eq, eGI_tt, eGI_ff, eGI_tf, eGI_ft, eop, vop, ev_t, ev_c, ev_f, Option.map, put_some, put_none, set_eq, setH_eq, get_eq, hp_eq,
                keep_cons, keep_nil, lk_cons, lk_nil, startSt, envOf, reduceIte, Nat.reduceEqDiff, Nat.reduceAdd, Nat.zero_add, Nat.add_zero, Nat.reduceMul, Nat.reduceLT,
                Nat.reduceLeDiff, bop, uop, intop, fltop, convop, true_or, or_true, Bool.false_eq_true, ret_ok, ret_normal, outV, rvV, rvs, ex_some, pureV, pureX, pureX.pure1',
                pure1, Bool.true_and, Bool.false_and, Bool.and_true, Bool.and_false, Option.isNone_none, AV.cells, AV.one, storable, laid, refless, refless1, List.all_cons,
                List.all_nil, List.length_cons, List.length_nil, List.getElem?_cons_zero, List.getElem?_cons_succ, List.set_cons_zero, List.set_cons_succ, List.set_nil,
                List.map_cons, List.map_nil, vload, loadC, storeC, vnil, vfaddr, vextract, callTo, List.mapM_cons, List.mapM_nil, Option.pure_def, Option.bind_eq_bind,
                Option.bind_some, tabOf_cons, flatT, flatE, flatC, and_self, and_true, true_and, implies_true, forall_const, not_true_eq_false, not_false_eq_true, false_implies,
                List.take_succ_cons, List.drop_succ_cons, List.take_zero, List.drop_zero, Bool.not_true, Bool.not_false, beq_self_eq_true, decide_true, decide_false, eq_self,
                Int.reduceEq, Int.reduceLE, Int.reduceLT, Bool.not_not, Bool.true_or, Bool.or_true, Bool.false_or, Bool.or_false, if_true, if_false, List.getElem?_nil, Kl_normal,
                Kl_exit, Kl_ret, bits_i64, cast_lit, toNat_lit, Int.reduceAdd, Int.reduceSub, Int.reduceMul, Int.reduceNeg, Int.reducePow, Nat.reducePow, Int.reduceToNat,
                Nat.reduceSub, Nat.mul_one, Int.toNat_zero, prod_eta, List.nil_append, List.cons_append, List.append_nil, vconv, vmm, vidxA, viaddrA, iaddr_sl, iaddr_lsl, getE,
                vfield, vlen, fillC, fillE, List.replicate, elemsOf, List.length_map, f2iK_eq, bits_i64, bits_i32, bits_u64, bits_u32, bits_u8, e_mov, g_mov, e_box, g_box, e_load,
                g_load, e_call, g_call, g_impl_RootNumber, g_impl_InnerOf]
      repeat' (first
        | ((first | (refine eGI_of (fun h => ?_) (fun h => ?_)) | (refine eCc_of (fun h => ?_) (fun h => ?_))) <;> (try simp only [Bool.not_eq_true', Bool.not_eq_false'] at h) <;> (try simp only [h, reduceCtorEq, Bool.not_eq_true', decide_eq_false_iff_not, Bool.not_true, Bool.not_false, Bool.false_or, Bool.true_or, Bool.true_and, Bool.false_and, Bool.and_eq_true, Bool.or_eq_true, if_true, if_false, reduceIte, Bool.false_eq_true, and_true, true_and, false_or, or_false, decide_eq_true_eq, not_false_eq_true, not_true_eq_false] at hp) <;> (try (have h2 := h; simp only [decide_eq_true_eq, decide_eq_false_iff_not] at h2; simp only [h2, if_true, if_false, false_or, true_or, or_true, or_false, and_true, true_and, not_false_eq_true, not_true_eq_false] at hp)) <;> simp only [h,
          hp, eA_seq, eA_reg, eA_ret, eA_skip, eA_cond, eA_block, eA_exit, eCc_true, eCc_false, Kq_normal, Kq_ret, Kq_exit, Kb_normal, Kb_exit, Kb_ret, Kreg_eq, eI_nil, bindSt_some,
                bindSt_none, bindSt_ite, eR_eq, eGI_tt, eGI_ff, eGI_tf, eGI_ft, eop, vop, ev_t, ev_c, ev_f, Option.map, put_some, put_none, set_eq, setH_eq, get_eq, hp_eq,
                keep_cons, keep_nil, lk_cons, lk_nil, startSt, envOf, reduceIte, Nat.reduceEqDiff, Nat.reduceAdd, Nat.zero_add, Nat.add_zero, Nat.reduceMul, Nat.reduceLT,
                Nat.reduceLeDiff, bop, uop, intop, fltop, convop, true_or, or_true, Bool.false_eq_true, ret_ok, ret_normal, outV, rvV, rvs, ex_some, pureV, pureX, pureX.pure1',
                pure1, Bool.true_and, Bool.false_and, Bool.and_true, Bool.and_false, Option.isNone_none, AV.cells, AV.one, storable, laid, refless, refless1, List.all_cons,
                List.all_nil, List.length_cons, List.length_nil, List.getElem?_cons_zero, List.getElem?_cons_succ, List.set_cons_zero, List.set_cons_succ, List.set_nil,
                List.map_cons, List.map_nil, vload, loadC, storeC, vnil, vfaddr, vextract, callTo, List.mapM_cons, List.mapM_nil, Option.pure_def, Option.bind_eq_bind,
                Option.bind_some, tabOf_cons, flatT, flatE, flatC, and_self, and_true, true_and, implies_true, forall_const, not_true_eq_false, not_false_eq_true, false_implies,
                List.take_succ_cons, List.drop_succ_cons, List.take_zero, List.drop_zero, Bool.not_true, Bool.not_false, beq_self_eq_true, decide_true, decide_false, eq_self,
                Int.reduceEq, Int.reduceLE, Int.reduceLT, Bool.not_not, Bool.true_or, Bool.or_true, Bool.false_or, Bool.or_false, if_true, if_false, List.getElem?_nil, Kl_normal,
                Kl_exit, Kl_ret, bits_i64, cast_lit, toNat_lit, Int.reduceAdd, Int.reduceSub, Int.reduceMul, Int.reduceNeg, Int.reducePow, Nat.reducePow, Int.reduceToNat,
                Nat.reduceSub, Nat.mul_one, Int.toNat_zero, prod_eta, List.nil_append, List.cons_append, List.append_nil, vconv, vmm, vidxA, viaddrA, iaddr_sl, iaddr_lsl, getE,
                vfield, vlen, fillC, fillE, List.replicate, elemsOf, List.length_map, f2iK_eq, bits_i64, bits_i32, bits_u64, bits_u32, bits_u8, e_mov, g_mov, e_box, g_box, e_load,
                g_load, e_call, g_call, g_impl_RootNumber, g_impl_InnerOf]))
      all_goals (try simp only [*, m_impl_LongOf, Bool.and_true, Bool.true_and, Bool.and_false, Bool.false_and, Bool.or_true, Bool.true_or, Bool.or_false, Bool.false_or, Bool.not_true, Bool.not_false, Bool.false_eq_true, if_true, if_false, reduceIte, decide_true, decide_false])
      all_goals (try (simp_all; done))
    · cases h
  · cases h
def m_impl_IsFinite (x0 : Nat) : Bool := (feq .f32 (fsub .f32 x0 x0) 0)
def g_impl_IsFinite : List AV → Option AV
  | [.flt .f32 y0] => some (.bool (m_impl_IsFinite y0))
  | _ => none
def ic51 : ICode := (.seq (.reg [⟨(some 2), none, (.mov (.c (.bool false)))⟩] [0]) (.seq (.reg [⟨(some 3), none, (.mov (.t 0))⟩, ⟨(some 4), none, (.mov (.t 0))⟩, ⟨(some 5), none,
      (.bin .sub false (.t 3) (.t 4))⟩, ⟨(some 6), none, (.bin .eql false (.t 5) (.c (.flt .f32 0)))⟩, ⟨(some 2), none, (.mov (.t 6))⟩] [2]) .ret))
def cp51 : CP := { n := 7, kp := [[0], [2]] }
theorem s51 : ∀ vs r, g_impl_IsFinite vs = some r → Says Try.prog 51 vs r := by
  intro vs r h
  unfold g_impl_IsFinite at h
  split at h
  · rename_i y0
    cases h
    refine spec_of (tab := tabOf []) (cp := cp51) (ic := ic51) (rvl := [(.t 2)]) hm tabOk_nil Try.func51 rfl rfl rfl (by kernel_rfl) rfl (Nat.le_of_ble_eq_true rfl) ?_
    show eA _ _ _ _
    unfold ic51
    simp only [
        eA_seq, eA_reg, eA_ret, eA_skip, eA_cond, eA_block, eA_exit, eCc_true, eCc_false, Kq_normal, Kq_ret, Kq_exit, Kb_normal, Kb_exit, Kb_ret, Kreg_eq, eI_nil, bindSt_some,
              bindSt_none, bindSt_ite, eR_eq, eGI_tt, eGI_ff, eGI_tf, eGI_ft, eop, vop, ev_t, ev_c, ev_f, Option.map, put_some, put_none, set_eq, setH_eq, get_eq, hp_eq, keep_cons,
              keep_nil, lk_cons, lk_nil, startSt, envOf, reduceIte, Nat.reduceEqDiff, Nat.reduceAdd, Nat.zero_add, Nat.add_zero, Nat.reduceMul, Nat.reduceLT, Nat.reduceLeDiff, bop,
              uop, intop, fltop, convop, true_or, or_true, Bool.false_eq_true, ret_ok, ret_normal, outV, rvV, rvs, ex_some, pureV, pureX, pureX.pure1', pure1, Bool.true_and,
              Bool.false_and, Bool.and_true, Bool.and_false, Option.isNone_none, AV.cells, AV.one, storable, laid, refless, refless1, List.all_cons, List.all_nil, List.length_cons,
              List.length_nil, List.getElem?_cons_zero, List.getElem?_cons_succ, List.set_cons_zero, List.set_cons_succ, List.set_nil, List.map_cons, List.map_nil, vload, loadC,
              storeC, vnil, vfaddr, vextract, callTo, List.mapM_cons, List.mapM_nil, Option.pure_def, Option.bind_eq_bind, Option.bind_some, tabOf_cons, flatT, flatE, flatC,
              and_self, and_true, true_and, implies_true, forall_const, not_true_eq_false, not_false_eq_true, false_implies, List.take_succ_cons, List.drop_succ_cons,
              List.take_zero, List.drop_zero, Bool.not_true, Bool.not_false, beq_self_eq_true, decide_true, decide_false, eq_self, Int.reduceEq, Int.reduceLE, Int.reduceLT,
              Bool.not_not, Bool.true_or, Bool.or_true, Bool.false_or, Bool.or_false, if_true, if_false, List.getElem?_nil, Kl_normal, Kl_exit, Kl_ret, bits_i64, cast_lit,
              toNat_lit, Int.reduceAdd, Int.reduceSub, Int.reduceMul, Int.reduceNeg, Int.reducePow, Nat.reducePow, Int.reduceToNat, Nat.reduceSub, Nat.mul_one, Int.toNat_zero,
              prod_eta, List.nil_append, List.cons_append, List.append_nil, vconv, vmm, vidxA, viaddrA, iaddr_sl, iaddr_lsl, getE, vfield, vlen, fillC, fillE, List.replicate,
              elemsOf, List.length_map, f2iK_eq, bits_i64, bits_i32, bits_u64, bits_u32, bits_u8, e_mov, g_mov, e_bin, g_bin]
    repeat' (first
      | ((first | (refine eGI_of (fun h => ?_) (fun h => ?_)) | (refine eCc_of (fun h => ?_) (fun h => ?_))) <;> (try simp only [Bool.not_eq_true', Bool.not_eq_false'] at h) <;> simp only [h,
        eA_seq, eA_reg, eA_ret, eA_skip, eA_cond, eA_block, eA_exit, eCc_true, eCc_false, Kq_normal, Kq_ret, Kq_exit, Kb_normal, Kb_exit, Kb_ret, Kreg_eq, eI_nil, bindSt_some,
              bindSt_none, bindSt_ite, eR_eq, eGI_tt, eGI_ff, eGI_tf, eGI_ft, eop, vop, ev_t, ev_c, ev_f, Option.map, put_some, put_none, set_eq, setH_eq, get_eq, hp_eq, keep_cons,
              keep_nil, lk_cons, lk_nil, startSt, envOf, reduceIte, Nat.reduceEqDiff, Nat.reduceAdd, Nat.zero_add, Nat.add_zero, Nat.reduceMul, Nat.reduceLT, Nat.reduceLeDiff, bop,
              uop, intop, fltop, convop, true_or, or_true, Bool.false_eq_true, ret_ok, ret_normal, outV, rvV, rvs, ex_some, pureV, pureX, pureX.pure1', pure1, Bool.true_and,
              Bool.false_and, Bool.and_true, Bool.and_false, Option.isNone_none, AV.cells, AV.one, storable, laid, refless, refless1, List.all_cons, List.all_nil, List.length_cons,
              List.length_nil, List.getElem?_cons_zero, List.getElem?_cons_succ, List.set_cons_zero, List.set_cons_succ, List.set_nil, List.map_cons, List.map_nil, vload, loadC,
              storeC, vnil, vfaddr, vextract, callTo, List.mapM_cons, List.mapM_nil, Option.pure_def, Option.bind_eq_bind, Option.bind_some, tabOf_cons, flatT, flatE, flatC,
              and_self, and_true, true_and, implies_true, forall_const, not_true_eq_false, not_false_eq_true, false_implies, List.take_succ_cons, List.drop_succ_cons,
              List.take_zero, List.drop_zero, Bool.not_true, Bool.not_false, beq_self_eq_true, decide_true, decide_false, eq_self, Int.reduceEq, Int.reduceLE, Int.reduceLT,
              Bool.not_not, Bool.true_or, Bool.or_true, Bool.false_or, Bool.or_false, if_true, if_false, List.getElem?_nil, Kl_normal, Kl_exit, Kl_ret, bits_i64, cast_lit,
              toNat_lit, Int.reduceAdd, Int.reduceSub, Int.reduceMul, Int.reduceNeg, Int.reducePow, Nat.reducePow, Int.reduceToNat, Nat.reduceSub, Nat.mul_one, Int.toNat_zero,
              prod_eta, List.nil_append, List.cons_append, List.append_nil, vconv, vmm, vidxA, viaddrA, iaddr_sl, iaddr_lsl, getE, vfield, vlen, fillC, fillE, List.replicate,
              elemsOf, List.length_map, f2iK_eq, bits_i64, bits_i32, bits_u64, bits_u32, bits_u8, e_mov, g_mov, e_bin, g_bin]))
    all_goals (try simp only [*, m_impl_IsFinite, Bool.and_true, Bool.true_and, Bool.and_false, Bool.false_and, Bool.or_true, Bool.true_or, Bool.or_false, Bool.false_or, Bool.not_true, Bool.not_false, Bool.false_eq_true, if_true, if_false, reduceIte, decide_true, decide_false])
    all_goals (try (simp_all; done))
  · cases h
def m_impl_isPositive (x0 : Nat) : Bool := (if (m_impl_IsFinite x0) = true then (flt .f32 0 x0) else false)
def g_impl_isPositive : List AV → Option AV
  | [.flt .f32 y0] => some (.bool (m_impl_isPositive y0))
  | _ => none
def ic43 : ICode := (.seq (.reg [⟨(some 2), none, (.mov (.c (.bool false)))⟩] [0]) (.seq (.reg [⟨(some 3), none, (.mov (.t 0))⟩, ⟨(some 4), none, (.call (.fn 51) [(.t 3)] [])⟩,
      ⟨(some 5), none, (.mov (.t 4))⟩, ⟨(some 6), (some (5, true)), (.mov (.t 0))⟩, ⟨(some 7), (some (5, true)), (.bin .gtr false (.t 6) (.c (.flt .f32 0)))⟩, ⟨(some 8), none,
      (.pick (.t 5) (.t 7) (.c (.bool false)))⟩, ⟨(some 2), none, (.mov (.t 8))⟩] [2]) .ret))
def cp43 : CP := { n := 9, kp := [[0], [2]] }
theorem s43 : ∀ vs r, g_impl_isPositive vs = some r → Says Try.prog 43 vs r := by
  intro vs r h
  unfold g_impl_isPositive at h
  split at h
  · rename_i y0
    cases h
    refine spec_of (tab := tabOf [(51, g_impl_IsFinite)]) (cp := cp43) (ic := ic43) (rvl := [(.t 2)]) hm (tabOk_cons s51 tabOk_nil) Try.func43 rfl rfl rfl (by kernel_rfl) rfl (Nat.le_of_ble_eq_true rfl) ?_
    show eA _ _ _ _
    unfold ic43
    simp only [
        eA_seq, eA_reg, eA_ret, eA_skip, eA_cond, eA_block, eA_exit, eCc_true, eCc_false, Kq_normal, Kq_ret, Kq_exit, Kb_normal, Kb_exit, Kb_ret, Kreg_eq, eI_nil, bindSt_some,
              bindSt_none, bindSt_ite, eR_eq, eGI_tt, eGI_ff, eGI_tf, eGI_ft, eop, vop, ev_t, ev_c, ev_f, Option.map, put_some, put_none, set_eq, setH_eq, get_eq, hp_eq, keep_cons,
              keep_nil, lk_cons, lk_nil, startSt, envOf, reduceIte, Nat.reduceEqDiff, Nat.reduceAdd, Nat.zero_add, Nat.add_zero, Nat.reduceMul, Nat.reduceLT, Nat.reduceLeDiff, bop,
              uop, intop, fltop, convop, true_or, or_true, Bool.false_eq_true, ret_ok, ret_normal, outV, rvV, rvs, ex_some, pureV, pureX, pureX.pure1', pure1, Bool.true_and,
              Bool.false_and, Bool.and_true, Bool.and_false, Option.isNone_none, AV.cells, AV.one, storable, laid, refless, refless1, List.all_cons, List.all_nil, List.length_cons,
              List.length_nil, List.getElem?_cons_zero, List.getElem?_cons_succ, List.set_cons_zero, List.set_cons_succ, List.set_nil, List.map_cons, List.map_nil, vload, loadC,
              storeC, vnil, vfaddr, vextract, callTo, List.mapM_cons, List.mapM_nil, Option.pure_def, Option.bind_eq_bind, Option.bind_some, tabOf_cons, flatT, flatE, flatC,
              and_self, and_true, true_and, implies_true, forall_const, not_true_eq_false, not_false_eq_true, false_implies, List.take_succ_cons, List.drop_succ_cons,
              List.take_zero, List.drop_zero, Bool.not_true, Bool.not_false, beq_self_eq_true, decide_true, decide_false, eq_self, Int.reduceEq, Int.reduceLE, Int.reduceLT,
              Bool.not_not, Bool.true_or, Bool.or_true, Bool.false_or, Bool.or_false, if_true, if_false, List.getElem?_nil, Kl_normal, Kl_exit, Kl_ret, bits_i64, cast_lit,
              toNat_lit, Int.reduceAdd, Int.reduceSub, Int.reduceMul, Int.reduceNeg, Int.reducePow, Nat.reducePow, Int.reduceToNat, Nat.reduceSub, Nat.mul_one, Int.toNat_zero,
              prod_eta, List.nil_append, List.cons_append, List.append_nil, vconv, vmm, vidxA, viaddrA, iaddr_sl, iaddr_lsl, getE, vfield, vlen, fillC, fillE, List.replicate,
              elemsOf, List.length_map, f2iK_eq, bits_i64, bits_i32, bits_u64, bits_u32, bits_u8, e_mov, g_mov, e_pick, g_pick, e_bin, g_bin, e_call, g_call, g_impl_IsFinite,
              ↓b_pick, ePk_true, ePk_false]
    repeat' (first
      | ((first | (refine eGI_of (fun h => ?_) (fun h => ?_)) | (refine eCc_of (fun h => ?_) (fun h => ?_)) | (refine ePk_of (fun h => ?_) (fun h => ?_))) <;> (try simp only [Bool.not_eq_true', Bool.not_eq_false'] at h) <;> simp only [h,
        eA_seq, eA_reg, eA_ret, eA_skip, eA_cond, eA_block, eA_exit, eCc_true, eCc_false, Kq_normal, Kq_ret, Kq_exit, Kb_normal, Kb_exit, Kb_ret, Kreg_eq, eI_nil, bindSt_some,
              bindSt_none, bindSt_ite, eR_eq, eGI_tt, eGI_ff, eGI_tf, eGI_ft, eop, vop, ev_t, ev_c, ev_f, Option.map, put_some, put_none, set_eq, setH_eq, get_eq, hp_eq, keep_cons,
              keep_nil, lk_cons, lk_nil, startSt, envOf, reduceIte, Nat.reduceEqDiff, Nat.reduceAdd, Nat.zero_add, Nat.add_zero, Nat.reduceMul, Nat.reduceLT, Nat.reduceLeDiff, bop,
              uop, intop, fltop, convop, true_or, or_true, Bool.false_eq_true, ret_ok, ret_normal, outV, rvV, rvs, ex_some, pureV, pureX, pureX.pure1', pure1, Bool.true_and,
              Bool.false_and, Bool.and_true, Bool.and_false, Option.isNone_none, AV.cells, AV.one, storable, laid, refless, refless1, List.all_cons, List.all_nil, List.length_cons,
              List.length_nil, List.getElem?_cons_zero, List.getElem?_cons_succ, List.set_cons_zero, List.set_cons_succ, List.set_nil, List.map_cons, List.map_nil, vload, loadC,
              storeC, vnil, vfaddr, vextract, callTo, List.mapM_cons, List.mapM_nil, Option.pure_def, Option.bind_eq_bind, Option.bind_some, tabOf_cons, flatT, flatE, flatC,
              and_self, and_true, true_and, implies_true, forall_const, not_true_eq_false, not_false_eq_true, false_implies, List.take_succ_cons, List.drop_succ_cons,
              List.take_zero, List.drop_zero, Bool.not_true, Bool.not_false, beq_self_eq_true, decide_true, decide_false, eq_self, Int.reduceEq, Int.reduceLE, Int.reduceLT,
              Bool.not_not, Bool.true_or, Bool.or_true, Bool.false_or, Bool.or_false, if_true, if_false, List.getElem?_nil, Kl_normal, Kl_exit, Kl_ret, bits_i64, cast_lit,
              toNat_lit, Int.reduceAdd, Int.reduceSub, Int.reduceMul, Int.reduceNeg, Int.reducePow, Nat.reducePow, Int.reduceToNat, Nat.reduceSub, Nat.mul_one, Int.toNat_zero,
              prod_eta, List.nil_append, List.cons_append, List.append_nil, vconv, vmm, vidxA, viaddrA, iaddr_sl, iaddr_lsl, getE, vfield, vlen, fillC, fillE, List.replicate,
              elemsOf, List.length_map, f2iK_eq, bits_i64, bits_i32, bits_u64, bits_u32, bits_u8, e_mov, g_mov, e_pick, g_pick, e_bin, g_bin, e_call, g_call, g_impl_IsFinite,
              ↓b_pick, ePk_true, ePk_false]))
    all_goals (try simp only [*, m_impl_isPositive, Bool.and_true, Bool.true_and, Bool.and_false, Bool.false_and, Bool.or_true, Bool.true_or, Bool.or_false, Bool.false_or, Bool.not_true, Bool.not_false, Bool.false_eq_true, if_true, if_false, reduceIte, decide_true, decide_false])
    all_goals (try (simp_all; done))
  · cases h
def m_impl_isLength (x0 : Nat) : Bool := (if (m_impl_IsFinite x0) = true then (!(feq .f32 x0 0)) else false)
def g_impl_isLength : List AV → Option AV
  | [.flt .f32 y0] => some (.bool (m_impl_isLength y0))
  | _ => none
def ic44 : ICode := (.seq (.reg [⟨(some 2), none, (.mov (.c (.bool false)))⟩] [0]) (.seq (.reg [⟨(some 3), none, (.mov (.t 0))⟩, ⟨(some 4), none, (.call (.fn 51) [(.t 3)] [])⟩,
      ⟨(some 5), none, (.mov (.t 4))⟩, ⟨(some 6), (some (5, true)), (.mov (.t 0))⟩, ⟨(some 7), (some (5, true)), (.bin .neq false (.t 6) (.c (.flt .f32 0)))⟩, ⟨(some 8), none,
      (.pick (.t 5) (.t 7) (.c (.bool false)))⟩, ⟨(some 2), none, (.mov (.t 8))⟩] [2]) .ret))
def cp44 : CP := { n := 9, kp := [[0], [2]] }
theorem s44 : ∀ vs r, g_impl_isLength vs = some r → Says Try.prog 44 vs r := by
  intro vs r h
  unfold g_impl_isLength at h
  split at h
  · rename_i y0
    cases h
    refine spec_of (tab := tabOf [(51, g_impl_IsFinite)]) (cp := cp44) (ic := ic44) (rvl := [(.t 2)]) hm (tabOk_cons s51 tabOk_nil) Try.func44 rfl rfl rfl (by kernel_rfl) rfl (Nat.le_of_ble_eq_true rfl) ?_
    show eA _ _ _ _
    unfold ic44
    simp only [
        eA_seq, eA_reg, eA_ret, eA_skip, eA_cond, eA_block, eA_exit, eCc_true, eCc_false, Kq_normal, Kq_ret, Kq_exit, Kb_normal, Kb_exit, Kb_ret, Kreg_eq, eI_nil, bindSt_some,
              bindSt_none, bindSt_ite, eR_eq, eGI_tt, eGI_ff, eGI_tf, eGI_ft, eop, vop, ev_t, ev_c, ev_f, Option.map, put_some, put_none, set_eq, setH_eq, get_eq, hp_eq, keep_cons,
              keep_nil, lk_cons, lk_nil, startSt, envOf, reduceIte, Nat.reduceEqDiff, Nat.reduceAdd, Nat.zero_add, Nat.add_zero, Nat.reduceMul, Nat.reduceLT, Nat.reduceLeDiff, bop,
              uop, intop, fltop, convop, true_or, or_true, Bool.false_eq_true, ret_ok, ret_normal, outV, rvV, rvs, ex_some, pureV, pureX, pureX.pure1', pure1, Bool.true_and,
              Bool.false_and, Bool.and_true, Bool.and_false, Option.isNone_none, AV.cells, AV.one, storable, laid, refless, refless1, List.all_cons, List.all_nil, List.length_cons,
              List.length_nil, List.getElem?_cons_zero, List.getElem?_cons_succ, List.set_cons_zero, List.set_cons_succ, List.set_nil, List.map_cons, List.map_nil, vload, loadC,
              storeC, vnil, vfaddr, vextract, callTo, List.mapM_cons, List.mapM_nil, Option.pure_def, Option.bind_eq_bind, Option.bind_some, tabOf_cons, flatT, flatE, flatC,
              and_self, and_true, true_and, implies_true, forall_const, not_true_eq_false, not_false_eq_true, false_implies, List.take_succ_cons, List.drop_succ_cons,
              List.take_zero, List.drop_zero, Bool.not_true, Bool.not_false, beq_self_eq_true, decide_true, decide_false, eq_self, Int.reduceEq, Int.reduceLE, Int.reduceLT,
              Bool.not_not, Bool.true_or, Bool.or_true, Bool.false_or, Bool.or_false, if_true, if_false, List.getElem?_nil, Kl_normal, Kl_exit, Kl_ret, bits_i64, cast_lit,
              toNat_lit, Int.reduceAdd, Int.reduceSub, Int.reduceMul, Int.reduceNeg, Int.reducePow, Nat.reducePow, Int.reduceToNat, Nat.reduceSub, Nat.mul_one, Int.toNat_zero,
              prod_eta, List.nil_append, List.cons_append, List.append_nil, vconv, vmm, vidxA, viaddrA, iaddr_sl, iaddr_lsl, getE, vfield, vlen, fillC, fillE, List.replicate,
              elemsOf, List.length_map, f2iK_eq, bits_i64, bits_i32, bits_u64, bits_u32, bits_u8, e_mov, g_mov, e_pick, g_pick, e_bin, g_bin, e_call, g_call, g_impl_IsFinite,
              ↓b_pick, ePk_true, ePk_false]
    repeat' (first
      | ((first | (refine eGI_of (fun h => ?_) (fun h => ?_)) | (refine eCc_of (fun h => ?_) (fun h => ?_)) | (refine ePk_of (fun h => ?_) (fun h => ?_))) <;> (try simp only [Bool.not_eq_true', Bool.not_eq_false'] at h) <;> simp only [h,
        eA_seq, eA_reg, eA_ret, eA_skip, eA_cond, eA_block, eA_exit, eCc_true, eCc_false, Kq_normal, Kq_ret, Kq_exit, Kb_normal, Kb_exit, Kb_ret, Kreg_eq, eI_nil, bindSt_some,
              bindSt_none, bindSt_ite, eR_eq, eGI_tt, eGI_ff, eGI_tf, eGI_ft, eop, vop, ev_t, ev_c, ev_f, Option.map, put_some, put_none, set_eq, setH_eq, get_eq, hp_eq, keep_cons,
              keep_nil, lk_cons, lk_nil, startSt, envOf, reduceIte, Nat.reduceEqDiff, Nat.reduceAdd, Nat.zero_add, Nat.add_zero, Nat.reduceMul, Nat.reduceLT, Nat.reduceLeDiff, bop,
              uop, intop, fltop, convop, true_or, or_true, Bool.false_eq_true, ret_ok, ret_normal, outV, rvV, rvs, ex_some, pureV, pureX, pureX.pure1', pure1, Bool.true_and,
              Bool.false_and, Bool.and_true, Bool.and_false, Option.isNone_none, AV.cells, AV.one, storable, laid, refless, refless1, List.all_cons, List.all_nil, List.length_cons,
              List.length_nil, List.getElem?_cons_zero, List.getElem?_cons_succ, List.set_cons_zero, List.set_cons_succ, List.set_nil, List.map_cons, List.map_nil, vload, loadC,
              storeC, vnil, vfaddr, vextract, callTo, List.mapM_cons, List.mapM_nil, Option.pure_def, Option.bind_eq_bind, Option.bind_some, tabOf_cons, flatT, flatE, flatC,
              and_self, and_true, true_and, implies_true, forall_const, not_true_eq_false, not_false_eq_true, false_implies, List.take_succ_cons, List.drop_succ_cons,
              List.take_zero, List.drop_zero, Bool.not_true, Bool.not_false, beq_self_eq_true, decide_true, decide_false, eq_self, Int.reduceEq, Int.reduceLE, Int.reduceLT,
              Bool.not_not, Bool.true_or, Bool.or_true, Bool.false_or, Bool.or_false, if_true, if_false, List.getElem?_nil, Kl_normal, Kl_exit, Kl_ret, bits_i64, cast_lit,
              toNat_lit, Int.reduceAdd, Int.reduceSub, Int.reduceMul, Int.reduceNeg, Int.reducePow, Nat.reducePow, Int.reduceToNat, Nat.reduceSub, Nat.mul_one, Int.toNat_zero,
              prod_eta, List.nil_append, List.cons_append, List.append_nil, vconv, vmm, vidxA, viaddrA, iaddr_sl, iaddr_lsl, getE, vfield, vlen, fillC, fillE, List.replicate,
              elemsOf, List.length_map, f2iK_eq, bits_i64, bits_i32, bits_u64, bits_u32, bits_u8, e_mov, g_mov, e_pick, g_pick, e_bin, g_bin, e_call, g_call, g_impl_IsFinite,
              ↓b_pick, ePk_true, ePk_false]))
    all_goals (try simp only [*, m_impl_isLength, Bool.and_true, Bool.true_and, Bool.and_false, Bool.false_and, Bool.or_true, Bool.true_or, Bool.or_false, Bool.false_or, Bool.not_true, Bool.not_false, Bool.false_eq_true, if_true, if_false, reduceIte, decide_true, decide_false])
    all_goals (try (simp_all; done))
  · cases h
def m_impl_Vector_over (x0 : (Nat × Nat × Nat)) (x1 : Nat) : (Nat × Nat × Nat) := ((fdiv .f32 x0.1 x1), (fdiv .f32 x0.2.1 x1), (fdiv .f32 x0.2.2 x1))
def g_impl_Vector_over : List AV → Option AV
  | [.agg [.flt .f32 y0, .flt .f32 y1, .flt .f32 y2], .flt .f32 y3] => some (AV.agg [(.flt .f32 (m_impl_Vector_over (y0, y1, y2) y3).1),
      (.flt .f32 (m_impl_Vector_over (y0, y1, y2) y3).2.1), (.flt .f32 (m_impl_Vector_over (y0, y1, y2) y3).2.2)])
  | _ => none
def ic45 : ICode := (.seq (.reg [⟨(some 2), none, (.box 3 (.t 0))⟩, ⟨(some 4), none, (.alloc (.agg [(.flt .f32 0), (.flt .f32 0), (.flt .f32 0)]))⟩] [1, 2, 4]) (.seq (.reg [⟨(some
      5), none, (.faddr 0 (.t 2))⟩, ⟨(some 6), none, (.load none (.t 5))⟩, ⟨(some 7), none, (.mov (.t 1))⟩, ⟨(some 8), none, (.bin .quo false (.t 6) (.t 7))⟩, ⟨(some 9), none,
      (.faddr 1 (.t 2))⟩, ⟨(some 10), none, (.load none (.t 9))⟩, ⟨(some 11), none, (.mov (.t 1))⟩, ⟨(some 12), none, (.bin .quo false (.t 10) (.t 11))⟩, ⟨(some 13), none, (.faddr 2
      (.t 2))⟩, ⟨(some 14), none, (.load none (.t 13))⟩, ⟨(some 15), none, (.mov (.t 1))⟩, ⟨(some 16), none, (.bin .quo false (.t 14) (.t 15))⟩, ⟨(some 17), none, (.build [(.flt
      .f32 0), (.flt .f32 0), (.flt .f32 0)] [(0, 1, (.t 8)), (1, 1, (.t 12)), (2, 1, (.t 16))])⟩, ⟨none, none, (.store 3 (.t 4) (.t 17))⟩] [4]) .ret))
def cp45 : CP := { n := 18, kp := [[1, 2, 4], [4]] }
theorem s45 : ∀ vs r, g_impl_Vector_over vs = some r → Says Try.prog 45 vs r := by
  intro vs r h
  unfold g_impl_Vector_over at h
  split at h
  · rename_i y0 y1 y2 y3
    cases h
    refine spec_of (tab := tabOf []) (cp := cp45) (ic := ic45) (rvl := [(.c 4 (some 3))]) hm tabOk_nil Try.func45 rfl rfl rfl (by kernel_rfl) rfl (Nat.le_of_ble_eq_true rfl) ?_
    show eA _ _ _ _
    unfold ic45
    simp only [
        eA_seq, eA_reg, eA_ret, eA_skip, eA_cond, eA_block, eA_exit, eCc_true, eCc_false, Kq_normal, Kq_ret, Kq_exit, Kb_normal, Kb_exit, Kb_ret, Kreg_eq, eI_nil, bindSt_some,
              bindSt_none, bindSt_ite, eR_eq, eGI_tt, eGI_ff, eGI_tf, eGI_ft, eop, vop, ev_t, ev_c, ev_f, Option.map, put_some, put_none, set_eq, setH_eq, get_eq, hp_eq, keep_cons,
              keep_nil, lk_cons, lk_nil, startSt, envOf, reduceIte, Nat.reduceEqDiff, Nat.reduceAdd, Nat.zero_add, Nat.add_zero, Nat.reduceMul, Nat.reduceLT, Nat.reduceLeDiff, bop,
              uop, intop, fltop, convop, true_or, or_true, Bool.false_eq_true, ret_ok, ret_normal, outV, rvV, rvs, ex_some, pureV, pureX, pureX.pure1', pure1, Bool.true_and,
              Bool.false_and, Bool.and_true, Bool.and_false, Option.isNone_none, AV.cells, AV.one, storable, laid, refless, refless1, List.all_cons, List.all_nil, List.length_cons,
              List.length_nil, List.getElem?_cons_zero, List.getElem?_cons_succ, List.set_cons_zero, List.set_cons_succ, List.set_nil, List.map_cons, List.map_nil, vload, loadC,
              storeC, vnil, vfaddr, vextract, callTo, List.mapM_cons, List.mapM_nil, Option.pure_def, Option.bind_eq_bind, Option.bind_some, tabOf_cons, flatT, flatE, flatC,
              and_self, and_true, true_and, implies_true, forall_const, not_true_eq_false, not_false_eq_true, false_implies, List.take_succ_cons, List.drop_succ_cons,
              List.take_zero, List.drop_zero, Bool.not_true, Bool.not_false, beq_self_eq_true, decide_true, decide_false, eq_self, Int.reduceEq, Int.reduceLE, Int.reduceLT,
              Bool.not_not, Bool.true_or, Bool.or_true, Bool.false_or, Bool.or_false, if_true, if_false, List.getElem?_nil, Kl_normal, Kl_exit, Kl_ret, bits_i64, cast_lit,
              toNat_lit, Int.reduceAdd, Int.reduceSub, Int.reduceMul, Int.reduceNeg, Int.reducePow, Nat.reducePow, Int.reduceToNat, Nat.reduceSub, Nat.mul_one, Int.toNat_zero,
              prod_eta, List.nil_append, List.cons_append, List.append_nil, vconv, vmm, vidxA, viaddrA, iaddr_sl, iaddr_lsl, getE, vfield, vlen, fillC, fillE, List.replicate,
              elemsOf, List.length_map, f2iK_eq, bits_i64, bits_i32, bits_u64, bits_u32, bits_u8, e_mov, g_mov, e_alloc, g_alloc, e_box, g_box, e_build, g_build, e_load, g_load,
              e_store, g_store, e_bin, g_bin, e_faddr, g_faddr]
    repeat' (first
      | ((first | (refine eGI_of (fun h => ?_) (fun h => ?_)) | (refine eCc_of (fun h => ?_) (fun h => ?_))) <;> (try simp only [Bool.not_eq_true', Bool.not_eq_false'] at h) <;> simp only [h,
        eA_seq, eA_reg, eA_ret, eA_skip, eA_cond, eA_block, eA_exit, eCc_true, eCc_false, Kq_normal, Kq_ret, Kq_exit, Kb_normal, Kb_exit, Kb_ret, Kreg_eq, eI_nil, bindSt_some,
              bindSt_none, bindSt_ite, eR_eq, eGI_tt, eGI_ff, eGI_tf, eGI_ft, eop, vop, ev_t, ev_c, ev_f, Option.map, put_some, put_none, set_eq, setH_eq, get_eq, hp_eq, keep_cons,
              keep_nil, lk_cons, lk_nil, startSt, envOf, reduceIte, Nat.reduceEqDiff, Nat.reduceAdd, Nat.zero_add, Nat.add_zero, Nat.reduceMul, Nat.reduceLT, Nat.reduceLeDiff, bop,
              uop, intop, fltop, convop, true_or, or_true, Bool.false_eq_true, ret_ok, ret_normal, outV, rvV, rvs, ex_some, pureV, pureX, pureX.pure1', pure1, Bool.true_and,
              Bool.false_and, Bool.and_true, Bool.and_false, Option.isNone_none, AV.cells, AV.one, storable, laid, refless, refless1, List.all_cons, List.all_nil, List.length_cons,
              List.length_nil, List.getElem?_cons_zero, List.getElem?_cons_succ, List.set_cons_zero, List.set_cons_succ, List.set_nil, List.map_cons, List.map_nil, vload, loadC,
              storeC, vnil, vfaddr, vextract, callTo, List.mapM_cons, List.mapM_nil, Option.pure_def, Option.bind_eq_bind, Option.bind_some, tabOf_cons, flatT, flatE, flatC,
              and_self, and_true, true_and, implies_true, forall_const, not_true_eq_false, not_false_eq_true, false_implies, List.take_succ_cons, List.drop_succ_cons,
              List.take_zero, List.drop_zero, Bool.not_true, Bool.not_false, beq_self_eq_true, decide_true, decide_false, eq_self, Int.reduceEq, Int.reduceLE, Int.reduceLT,
              Bool.not_not, Bool.true_or, Bool.or_true, Bool.false_or, Bool.or_false, if_true, if_false, List.getElem?_nil, Kl_normal, Kl_exit, Kl_ret, bits_i64, cast_lit,
              toNat_lit, Int.reduceAdd, Int.reduceSub, Int.reduceMul, Int.reduceNeg, Int.reducePow, Nat.reducePow, Int.reduceToNat, Nat.reduceSub, Nat.mul_one, Int.toNat_zero,
              prod_eta, List.nil_append, List.cons_append, List.append_nil, vconv, vmm, vidxA, viaddrA, iaddr_sl, iaddr_lsl, getE, vfield, vlen, fillC, fillE, List.replicate,
              elemsOf, List.length_map, f2iK_eq, bits_i64, bits_i32, bits_u64, bits_u32, bits_u8, e_mov, g_mov, e_alloc, g_alloc, e_box, g_box, e_build, g_build, e_load, g_load,
              e_store, g_store, e_bin, g_bin, e_faddr, g_faddr]))
    all_goals (try simp only [*, m_impl_Vector_over, Bool.and_true, Bool.true_and, Bool.and_false, Bool.false_and, Bool.or_true, Bool.true_or, Bool.or_false, Bool.false_or, Bool.not_true, Bool.not_false, Bool.false_eq_true, if_true, if_false, reduceIte, decide_true, decide_false])
    all_goals (try (simp_all; done))
  · cases h
def m_impl_ScaleVector (x0 : (Nat × Nat × Nat)) (x1 : Nat) : (Nat × Nat × Nat) := ((fmul .f32 x0.1 x1), (fmul .f32 x0.2.1 x1), (fmul .f32 x0.2.2 x1))
def g_impl_ScaleVector : List AV → Option AV
  | [.agg [.flt .f32 y0, .flt .f32 y1, .flt .f32 y2], .flt .f32 y3] => some (AV.agg [(.flt .f32 (m_impl_ScaleVector (y0, y1, y2) y3).1),
      (.flt .f32 (m_impl_ScaleVector (y0, y1, y2) y3).2.1), (.flt .f32 (m_impl_ScaleVector (y0, y1, y2) y3).2.2)])
  | _ => none
def ic48 : ICode := (.seq (.reg [⟨(some 2), none, (.box 3 (.t 0))⟩, ⟨(some 4), none, (.alloc (.agg [(.flt .f32 0), (.flt .f32 0), (.flt .f32 0)]))⟩] [1, 2, 4]) (.seq (.reg [⟨(some
      5), none, (.faddr 0 (.t 2))⟩, ⟨(some 6), none, (.load none (.t 5))⟩, ⟨(some 7), none, (.mov (.t 1))⟩, ⟨(some 8), none, (.bin .mul false (.t 6) (.t 7))⟩, ⟨(some 9), none,
      (.faddr 1 (.t 2))⟩, ⟨(some 10), none, (.load none (.t 9))⟩, ⟨(some 11), none, (.mov (.t 1))⟩, ⟨(some 12), none, (.bin .mul false (.t 10) (.t 11))⟩, ⟨(some 13), none, (.faddr 2
      (.t 2))⟩, ⟨(some 14), none, (.load none (.t 13))⟩, ⟨(some 15), none, (.mov (.t 1))⟩, ⟨(some 16), none, (.bin .mul false (.t 14) (.t 15))⟩, ⟨(some 17), none, (.build [(.flt
      .f32 0), (.flt .f32 0), (.flt .f32 0)] [(0, 1, (.t 8)), (1, 1, (.t 12)), (2, 1, (.t 16))])⟩, ⟨none, none, (.store 3 (.t 4) (.t 17))⟩] [4]) .ret))
def cp48 : CP := { n := 18, kp := [[1, 2, 4], [4]] }
theorem s48 : ∀ vs r, g_impl_ScaleVector vs = some r → Says Try.prog 48 vs r := by
  intro vs r h
  unfold g_impl_ScaleVector at h
  split at h
  · rename_i y0 y1 y2 y3
    cases h
    refine spec_of (tab := tabOf []) (cp := cp48) (ic := ic48) (rvl := [(.c 4 (some 3))]) hm tabOk_nil Try.func48 rfl rfl rfl (by kernel_rfl) rfl (Nat.le_of_ble_eq_true rfl) ?_
    show eA _ _ _ _
    unfold ic48
    simp only [
        eA_seq, eA_reg, eA_ret, eA_skip, eA_cond, eA_block, eA_exit, eCc_true, eCc_false, Kq_normal, Kq_ret, Kq_exit, Kb_normal, Kb_exit, Kb_ret, Kreg_eq, eI_nil, bindSt_some,
              bindSt_none, bindSt_ite, eR_eq, eGI_tt, eGI_ff, eGI_tf, eGI_ft, eop, vop, ev_t, ev_c, ev_f, Option.map, put_some, put_none, set_eq, setH_eq, get_eq, hp_eq, keep_cons,
              keep_nil, lk_cons, lk_nil, startSt, envOf, reduceIte, Nat.reduceEqDiff, Nat.reduceAdd, Nat.zero_add, Nat.add_zero, Nat.reduceMul, Nat.reduceLT, Nat.reduceLeDiff, bop,
              uop, intop, fltop, convop, true_or, or_true, Bool.false_eq_true, ret_ok, ret_normal, outV, rvV, rvs, ex_some, pureV, pureX, pureX.pure1', pure1, Bool.true_and,
              Bool.false_and, Bool.and_true, Bool.and_false, Option.isNone_none, AV.cells, AV.one, storable, laid, refless, refless1, List.all_cons, List.all_nil, List.length_cons,
              List.length_nil, List.getElem?_cons_zero, List.getElem?_cons_succ, List.set_cons_zero, List.set_cons_succ, List.set_nil, List.map_cons, List.map_nil, vload, loadC,
              storeC, vnil, vfaddr, vextract, callTo, List.mapM_cons, List.mapM_nil, Option.pure_def, Option.bind_eq_bind, Option.bind_some, tabOf_cons, flatT, flatE, flatC,
              and_self, and_true, true_and, implies_true, forall_const, not_true_eq_false, not_false_eq_true, false_implies, List.take_succ_cons, List.drop_succ_cons,
              List.take_zero, List.drop_zero, Bool.not_true, Bool.not_false, beq_self_eq_true, decide_true, decide_false, eq_self, Int.reduceEq, Int.reduceLE, Int.reduceLT,
              Bool.not_not, Bool.true_or, Bool.or_true, Bool.false_or, Bool.or_false, if_true, if_false, List.getElem?_nil, Kl_normal, Kl_exit, Kl_ret, bits_i64, cast_lit,
              toNat_lit, Int.reduceAdd, Int.reduceSub, Int.reduceMul, Int.reduceNeg, Int.reducePow, Nat.reducePow, Int.reduceToNat, Nat.reduceSub, Nat.mul_one, Int.toNat_zero,
              prod_eta, List.nil_append, List.cons_append, List.append_nil, vconv, vmm, vidxA, viaddrA, iaddr_sl, iaddr_lsl, getE, vfield, vlen, fillC, fillE, List.replicate,
              elemsOf, List.length_map, f2iK_eq, bits_i64, bits_i32, bits_u64, bits_u32, bits_u8, e_mov, g_mov, e_alloc, g_alloc, e_box, g_box, e_build, g_build, e_load, g_load,
              e_store, g_store, e_bin, g_bin, e_faddr, g_faddr]
    repeat' (first
      | ((first | (refine eGI_of (fun h => ?_) (fun h => ?_)) | (refine eCc_of (fun h => ?_) (fun h => ?_))) <;> (try simp only [Bool.not_eq_true', Bool.not_eq_false'] at h) <;> simp only [h,
        eA_seq, eA_reg, eA_ret, eA_skip, eA_cond, eA_block, eA_exit, eCc_true, eCc_false, Kq_normal, Kq_ret, Kq_exit, Kb_normal, Kb_exit, Kb_ret, Kreg_eq, eI_nil, bindSt_some,
              bindSt_none, bindSt_ite, eR_eq, eGI_tt, eGI_ff, eGI_tf, eGI_ft, eop, vop, ev_t, ev_c, ev_f, Option.map, put_some, put_none, set_eq, setH_eq, get_eq, hp_eq, keep_cons,
              keep_nil, lk_cons, lk_nil, startSt, envOf, reduceIte, Nat.reduceEqDiff, Nat.reduceAdd, Nat.zero_add, Nat.add_zero, Nat.reduceMul, Nat.reduceLT, Nat.reduceLeDiff, bop,
              uop, intop, fltop, convop, true_or, or_true, Bool.false_eq_true, ret_ok, ret_normal, outV, rvV, rvs, ex_some, pureV, pureX, pureX.pure1', pure1, Bool.true_and,
              Bool.false_and, Bool.and_true, Bool.and_false, Option.isNone_none, AV.cells, AV.one, storable, laid, refless, refless1, List.all_cons, List.all_nil, List.length_cons,
              List.length_nil, List.getElem?_cons_zero, List.getElem?_cons_succ, List.set_cons_zero, List.set_cons_succ, List.set_nil, List.map_cons, List.map_nil, vload, loadC,
              storeC, vnil, vfaddr, vextract, callTo, List.mapM_cons, List.mapM_nil, Option.pure_def, Option.bind_eq_bind, Option.bind_some, tabOf_cons, flatT, flatE, flatC,
              and_self, and_true, true_and, implies_true, forall_const, not_true_eq_false, not_false_eq_true, false_implies, List.take_succ_cons, List.drop_succ_cons,
              List.take_zero, List.drop_zero, Bool.not_true, Bool.not_false, beq_self_eq_true, decide_true, decide_false, eq_self, Int.reduceEq, Int.reduceLE, Int.reduceLT,
              Bool.not_not, Bool.true_or, Bool.or_true, Bool.false_or, Bool.or_false, if_true, if_false, List.getElem?_nil, Kl_normal, Kl_exit, Kl_ret, bits_i64, cast_lit,
              toNat_lit, Int.reduceAdd, Int.reduceSub, Int.reduceMul, Int.reduceNeg, Int.reducePow, Nat.reducePow, Int.reduceToNat, Nat.reduceSub, Nat.mul_one, Int.toNat_zero,
              prod_eta, List.nil_append, List.cons_append, List.append_nil, vconv, vmm, vidxA, viaddrA, iaddr_sl, iaddr_lsl, getE, vfield, vlen, fillC, fillE, List.replicate,
              elemsOf, List.length_map, f2iK_eq, bits_i64, bits_i32, bits_u64, bits_u32, bits_u8, e_mov, g_mov, e_alloc, g_alloc, e_box, g_box, e_build, g_build, e_load, g_load,
              e_store, g_store, e_bin, g_bin, e_faddr, g_faddr]))
    all_goals (try simp only [*, m_impl_ScaleVector, Bool.and_true, Bool.true_and, Bool.and_false, Bool.false_and, Bool.or_true, Bool.true_or, Bool.or_false, Bool.false_or, Bool.not_true, Bool.not_false, Bool.false_eq_true, if_true, if_false, reduceIte, decide_true, decide_false])
    all_goals (try (simp_all; done))
  · cases h
def m_impl_LessVectors (x0 : (Nat × Nat × Nat)) (x1 : (Nat × Nat × Nat)) : (Nat × Nat × Nat) := ((fsub .f32 x0.1 x1.1), (fsub .f32 x0.2.1 x1.2.1), (fsub .f32 x0.2.2 x1.2.2))
def g_impl_LessVectors : List AV → Option AV
  | [.agg [.flt .f32 y0, .flt .f32 y1, .flt .f32 y2], .agg [.flt .f32 y3, .flt .f32 y4, .flt .f32 y5]] => some (AV.agg [(.flt .f32
      (m_impl_LessVectors (y0, y1, y2) (y3, y4, y5)).1), (.flt .f32 (m_impl_LessVectors (y0, y1, y2) (y3, y4, y5)).2.1), (.flt .f32 (m_impl_LessVectors (y0, y1, y2) (y3, y4,
      y5)).2.2)])
  | _ => none
def ic47 : ICode := (.seq (.reg [⟨(some 2), none, (.box 3 (.t 0))⟩, ⟨(some 3), none, (.box 3 (.t 1))⟩, ⟨(some 4), none, (.alloc (.agg [(.flt .f32 0), (.flt .f32 0), (.flt .f32
      0)]))⟩] [2, 3, 4]) (.seq (.reg [⟨(some 5), none, (.faddr 0 (.t 2))⟩, ⟨(some 6), none, (.load none (.t 5))⟩, ⟨(some 7), none, (.faddr 0 (.t 3))⟩, ⟨(some 8), none, (.load none
      (.t 7))⟩, ⟨(some 9), none, (.bin .sub false (.t 6) (.t 8))⟩, ⟨(some 10), none, (.faddr 1 (.t 2))⟩, ⟨(some 11), none, (.load none (.t 10))⟩, ⟨(some 12), none, (.faddr 1 (.t
      3))⟩, ⟨(some 13), none, (.load none (.t 12))⟩, ⟨(some 14), none, (.bin .sub false (.t 11) (.t 13))⟩, ⟨(some 15), none, (.faddr 2 (.t 2))⟩, ⟨(some 16), none, (.load none (.t
      15))⟩, ⟨(some 17), none, (.faddr 2 (.t 3))⟩, ⟨(some 18), none, (.load none (.t 17))⟩, ⟨(some 19), none, (.bin .sub false (.t 16) (.t 18))⟩, ⟨(some 20), none, (.build [(.flt
      .f32 0), (.flt .f32 0), (.flt .f32 0)] [(0, 1, (.t 9)), (1, 1, (.t 14)), (2, 1, (.t 19))])⟩, ⟨none, none, (.store 3 (.t 4) (.t 20))⟩] [4]) .ret))
def cp47 : CP := { n := 21, kp := [[2, 3, 4], [4]] }
theorem s47 : ∀ vs r, g_impl_LessVectors vs = some r → Says Try.prog 47 vs r := by
  intro vs r h
  unfold g_impl_LessVectors at h
  split at h
  · rename_i y0 y1 y2 y3 y4 y5
    cases h
    refine spec_of (tab := tabOf []) (cp := cp47) (ic := ic47) (rvl := [(.c 4 (some 3))]) hm tabOk_nil Try.func47 rfl rfl rfl (by kernel_rfl) rfl (Nat.le_of_ble_eq_true rfl) ?_
    show eA _ _ _ _
    unfold ic47
    simp only [
        eA_seq, eA_reg, eA_ret, eA_skip, eA_cond, eA_block, eA_exit, eCc_true, eCc_false, Kq_normal, Kq_ret, Kq_exit, Kb_normal, Kb_exit, Kb_ret, Kreg_eq, eI_nil, bindSt_some,
              bindSt_none, bindSt_ite, eR_eq, eGI_tt, eGI_ff, eGI_tf, eGI_ft, eop, vop, ev_t, ev_c, ev_f, Option.map, put_some, put_none, set_eq, setH_eq, get_eq, hp_eq, keep_cons,
              keep_nil, lk_cons, lk_nil, startSt, envOf, reduceIte, Nat.reduceEqDiff, Nat.reduceAdd, Nat.zero_add, Nat.add_zero, Nat.reduceMul, Nat.reduceLT, Nat.reduceLeDiff, bop,
              uop, intop, fltop, convop, true_or, or_true, Bool.false_eq_true, ret_ok, ret_normal, outV, rvV, rvs, ex_some, pureV, pureX, pureX.pure1', pure1, Bool.true_and,
              Bool.false_and, Bool.and_true, Bool.and_false, Option.isNone_none, AV.cells, AV.one, storable, laid, refless, refless1, List.all_cons, List.all_nil, List.length_cons,
              List.length_nil, List.getElem?_cons_zero, List.getElem?_cons_succ, List.set_cons_zero, List.set_cons_succ, List.set_nil, List.map_cons, List.map_nil, vload, loadC,
              storeC, vnil, vfaddr, vextract, callTo, List.mapM_cons, List.mapM_nil, Option.pure_def, Option.bind_eq_bind, Option.bind_some, tabOf_cons, flatT, flatE, flatC,
              and_self, and_true, true_and, implies_true, forall_const, not_true_eq_false, not_false_eq_true, false_implies, List.take_succ_cons, List.drop_succ_cons,
              List.take_zero, List.drop_zero, Bool.not_true, Bool.not_false, beq_self_eq_true, decide_true, decide_false, eq_self, Int.reduceEq, Int.reduceLE, Int.reduceLT,
              Bool.not_not, Bool.true_or, Bool.or_true, Bool.false_or, Bool.or_false, if_true, if_false, List.getElem?_nil, Kl_normal, Kl_exit, Kl_ret, bits_i64, cast_lit,
              toNat_lit, Int.reduceAdd, Int.reduceSub, Int.reduceMul, Int.reduceNeg, Int.reducePow, Nat.reducePow, Int.reduceToNat, Nat.reduceSub, Nat.mul_one, Int.toNat_zero,
              prod_eta, List.nil_append, List.cons_append, List.append_nil, vconv, vmm, vidxA, viaddrA, iaddr_sl, iaddr_lsl, getE, vfield, vlen, fillC, fillE, List.replicate,
              elemsOf, List.length_map, f2iK_eq, bits_i64, bits_i32, bits_u64, bits_u32, bits_u8, e_alloc, g_alloc, e_box, g_box, e_build, g_build, e_load, g_load, e_store, g_store,
              e_bin, g_bin, e_faddr, g_faddr]
    repeat' (first
      | ((first | (refine eGI_of (fun h => ?_) (fun h => ?_)) | (refine eCc_of (fun h => ?_) (fun h => ?_))) <;> (try simp only [Bool.not_eq_true', Bool.not_eq_false'] at h) <;> simp only [h,
        eA_seq, eA_reg, eA_ret, eA_skip, eA_cond, eA_block, eA_exit, eCc_true, eCc_false, Kq_normal, Kq_ret, Kq_exit, Kb_normal, Kb_exit, Kb_ret, Kreg_eq, eI_nil, bindSt_some,
              bindSt_none, bindSt_ite, eR_eq, eGI_tt, eGI_ff, eGI_tf, eGI_ft, eop, vop, ev_t, ev_c, ev_f, Option.map, put_some, put_none, set_eq, setH_eq, get_eq, hp_eq, keep_cons,
              keep_nil, lk_cons, lk_nil, startSt, envOf, reduceIte, Nat.reduceEqDiff, Nat.reduceAdd, Nat.zero_add, Nat.add_zero, Nat.reduceMul, Nat.reduceLT, Nat.reduceLeDiff, bop,
              uop, intop, fltop, convop, true_or, or_true, Bool.false_eq_true, ret_ok, ret_normal, outV, rvV, rvs, ex_some, pureV, pureX, pureX.pure1', pure1, Bool.true_and,
              Bool.false_and, Bool.and_true, Bool.and_false, Option.isNone_none, AV.cells, AV.one, storable, laid, refless, refless1, List.all_cons, List.all_nil, List.length_cons,
              List.length_nil, List.getElem?_cons_zero, List.getElem?_cons_succ, List.set_cons_zero, List.set_cons_succ, List.set_nil, List.map_cons, List.map_nil, vload, loadC,
              storeC, vnil, vfaddr, vextract, callTo, List.mapM_cons, List.mapM_nil, Option.pure_def, Option.bind_eq_bind, Option.bind_some, tabOf_cons, flatT, flatE, flatC,
              and_self, and_true, true_and, implies_true, forall_const, not_true_eq_false, not_false_eq_true, false_implies, List.take_succ_cons, List.drop_succ_cons,
              List.take_zero, List.drop_zero, Bool.not_true, Bool.not_false, beq_self_eq_true, decide_true, decide_false, eq_self, Int.reduceEq, Int.reduceLE, Int.reduceLT,
              Bool.not_not, Bool.true_or, Bool.or_true, Bool.false_or, Bool.or_false, if_true, if_false, List.getElem?_nil, Kl_normal, Kl_exit, Kl_ret, bits_i64, cast_lit,
              toNat_lit, Int.reduceAdd, Int.reduceSub, Int.reduceMul, Int.reduceNeg, Int.reducePow, Nat.reducePow, Int.reduceToNat, Nat.reduceSub, Nat.mul_one, Int.toNat_zero,
              prod_eta, List.nil_append, List.cons_append, List.append_nil, vconv, vmm, vidxA, viaddrA, iaddr_sl, iaddr_lsl, getE, vfield, vlen, fillC, fillE, List.replicate,
              elemsOf, List.length_map, f2iK_eq, bits_i64, bits_i32, bits_u64, bits_u32, bits_u8, e_alloc, g_alloc, e_box, g_box, e_build, g_build, e_load, g_load, e_store, g_store,
              e_bin, g_bin, e_faddr, g_faddr]))
    all_goals (try simp only [*, m_impl_LessVectors, Bool.and_true, Bool.true_and, Bool.and_false, Bool.false_and, Bool.or_true, Bool.true_or, Bool.or_false, Bool.false_or, Bool.not_true, Bool.not_false, Bool.false_eq_true, if_true, if_false, reduceIte, decide_true, decide_false])
    all_goals (try (simp_all; done))
  · cases h
def m_impl_AddVectors (x0 : (Nat × Nat × Nat)) (x1 : (Nat × Nat × Nat)) : (Nat × Nat × Nat) := ((fadd .f32 x0.1 x1.1), (fadd .f32 x0.2.1 x1.2.1), (fadd .f32 x0.2.2 x1.2.2))
def g_impl_AddVectors : List AV → Option AV
  | [.agg [.flt .f32 y0, .flt .f32 y1, .flt .f32 y2], .agg [.flt .f32 y3, .flt .f32 y4, .flt .f32 y5]] => some (AV.agg [(.flt .f32
      (m_impl_AddVectors (y0, y1, y2) (y3, y4, y5)).1), (.flt .f32 (m_impl_AddVectors (y0, y1, y2) (y3, y4, y5)).2.1), (.flt .f32 (m_impl_AddVectors (y0, y1, y2) (y3, y4,
      y5)).2.2)])
  | _ => none
def ic50 : ICode := (.seq (.reg [⟨(some 2), none, (.box 3 (.t 0))⟩, ⟨(some 3), none, (.box 3 (.t 1))⟩, ⟨(some 4), none, (.alloc (.agg [(.flt .f32 0), (.flt .f32 0), (.flt .f32
      0)]))⟩] [2, 3, 4]) (.seq (.reg [⟨(some 5), none, (.faddr 0 (.t 2))⟩, ⟨(some 6), none, (.load none (.t 5))⟩, ⟨(some 7), none, (.faddr 0 (.t 3))⟩, ⟨(some 8), none, (.load none
      (.t 7))⟩, ⟨(some 9), none, (.bin .add false (.t 6) (.t 8))⟩, ⟨(some 10), none, (.faddr 1 (.t 2))⟩, ⟨(some 11), none, (.load none (.t 10))⟩, ⟨(some 12), none, (.faddr 1 (.t
      3))⟩, ⟨(some 13), none, (.load none (.t 12))⟩, ⟨(some 14), none, (.bin .add false (.t 11) (.t 13))⟩, ⟨(some 15), none, (.faddr 2 (.t 2))⟩, ⟨(some 16), none, (.load none (.t
      15))⟩, ⟨(some 17), none, (.faddr 2 (.t 3))⟩, ⟨(some 18), none, (.load none (.t 17))⟩, ⟨(some 19), none, (.bin .add false (.t 16) (.t 18))⟩, ⟨(some 20), none, (.build [(.flt
      .f32 0), (.flt .f32 0), (.flt .f32 0)] [(0, 1, (.t 9)), (1, 1, (.t 14)), (2, 1, (.t 19))])⟩, ⟨none, none, (.store 3 (.t 4) (.t 20))⟩] [4]) .ret))
def cp50 : CP := { n := 21, kp := [[2, 3, 4], [4]] }
theorem s50 : ∀ vs r, g_impl_AddVectors vs = some r → Says Try.prog 50 vs r := by
  intro vs r h
  unfold g_impl_AddVectors at h
  split at h
  · rename_i y0 y1 y2 y3 y4 y5
    cases h
    refine spec_of (tab := tabOf []) (cp := cp50) (ic := ic50) (rvl := [(.c 4 (some 3))]) hm tabOk_nil Try.func50 rfl rfl rfl (by kernel_rfl) rfl (Nat.le_of_ble_eq_true rfl) ?_
    show eA _ _ _ _
    unfold ic50
    simp only [
        eA_seq, eA_reg, eA_ret, eA_skip, eA_cond, eA_block, eA_exit, eCc_true, eCc_false, Kq_normal, Kq_ret, Kq_exit, Kb_normal, Kb_exit, Kb_ret, Kreg_eq, eI_nil, bindSt_some,
              bindSt_none, bindSt_ite, eR_eq, eGI_tt, eGI_ff, eGI_tf, eGI_ft, eop, vop, ev_t, ev_c, ev_f, Option.map, put_some, put_none, set_eq, setH_eq, get_eq, hp_eq, keep_cons,
              keep_nil, lk_cons, lk_nil, startSt, envOf, reduceIte, Nat.reduceEqDiff, Nat.reduceAdd, Nat.zero_add, Nat.add_zero, Nat.reduceMul, Nat.reduceLT, Nat.reduceLeDiff, bop,
              uop, intop, fltop, convop, true_or, or_true, Bool.false_eq_true, ret_ok, ret_normal, outV, rvV, rvs, ex_some, pureV, pureX, pureX.pure1', pure1, Bool.true_and,
              Bool.false_and, Bool.and_true, Bool.and_false, Option.isNone_none, AV.cells, AV.one, storable, laid, refless, refless1, List.all_cons, List.all_nil, List.length_cons,
              List.length_nil, List.getElem?_cons_zero, List.getElem?_cons_succ, List.set_cons_zero, List.set_cons_succ, List.set_nil, List.map_cons, List.map_nil, vload, loadC,
              storeC, vnil, vfaddr, vextract, callTo, List.mapM_cons, List.mapM_nil, Option.pure_def, Option.bind_eq_bind, Option.bind_some, tabOf_cons, flatT, flatE, flatC,
              and_self, and_true, true_and, implies_true, forall_const, not_true_eq_false, not_false_eq_true, false_implies, List.take_succ_cons, List.drop_succ_cons,
              List.take_zero, List.drop_zero, Bool.not_true, Bool.not_false, beq_self_eq_true, decide_true, decide_false, eq_self, Int.reduceEq, Int.reduceLE, Int.reduceLT,
              Bool.not_not, Bool.true_or, Bool.or_true, Bool.false_or, Bool.or_false, if_true, if_false, List.getElem?_nil, Kl_normal, Kl_exit, Kl_ret, bits_i64, cast_lit,
              toNat_lit, Int.reduceAdd, Int.reduceSub, Int.reduceMul, Int.reduceNeg, Int.reducePow, Nat.reducePow, Int.reduceToNat, Nat.reduceSub, Nat.mul_one, Int.toNat_zero,
              prod_eta, List.nil_append, List.cons_append, List.append_nil, vconv, vmm, vidxA, viaddrA, iaddr_sl, iaddr_lsl, getE, vfield, vlen, fillC, fillE, List.replicate,
              elemsOf, List.length_map, f2iK_eq, bits_i64, bits_i32, bits_u64, bits_u32, bits_u8, e_alloc, g_alloc, e_box, g_box, e_build, g_build, e_load, g_load, e_store, g_store,
              e_bin, g_bin, e_faddr, g_faddr]
    repeat' (first
      | ((first | (refine eGI_of (fun h => ?_) (fun h => ?_)) | (refine eCc_of (fun h => ?_) (fun h => ?_))) <;> (try simp only [Bool.not_eq_true', Bool.not_eq_false'] at h) <;> simp only [h,
        eA_seq, eA_reg, eA_ret, eA_skip, eA_cond, eA_block, eA_exit, eCc_true, eCc_false, Kq_normal, Kq_ret, Kq_exit, Kb_normal, Kb_exit, Kb_ret, Kreg_eq, eI_nil, bindSt_some,
              bindSt_none, bindSt_ite, eR_eq, eGI_tt, eGI_ff, eGI_tf, eGI_ft, eop, vop, ev_t, ev_c, ev_f, Option.map, put_some, put_none, set_eq, setH_eq, get_eq, hp_eq, keep_cons,
              keep_nil, lk_cons, lk_nil, startSt, envOf, reduceIte, Nat.reduceEqDiff, Nat.reduceAdd, Nat.zero_add, Nat.add_zero, Nat.reduceMul, Nat.reduceLT, Nat.reduceLeDiff, bop,
              uop, intop, fltop, convop, true_or, or_true, Bool.false_eq_true, ret_ok, ret_normal, outV, rvV, rvs, ex_some, pureV, pureX, pureX.pure1', pure1, Bool.true_and,
              Bool.false_and, Bool.and_true, Bool.and_false, Option.isNone_none, AV.cells, AV.one, storable, laid, refless, refless1, List.all_cons, List.all_nil, List.length_cons,
              List.length_nil, List.getElem?_cons_zero, List.getElem?_cons_succ, List.set_cons_zero, List.set_cons_succ, List.set_nil, List.map_cons, List.map_nil, vload, loadC,
              storeC, vnil, vfaddr, vextract, callTo, List.mapM_cons, List.mapM_nil, Option.pure_def, Option.bind_eq_bind, Option.bind_some, tabOf_cons, flatT, flatE, flatC,
              and_self, and_true, true_and, implies_true, forall_const, not_true_eq_false, not_false_eq_true, false_implies, List.take_succ_cons, List.drop_succ_cons,
              List.take_zero, List.drop_zero, Bool.not_true, Bool.not_false, beq_self_eq_true, decide_true, decide_false, eq_self, Int.reduceEq, Int.reduceLE, Int.reduceLT,
              Bool.not_not, Bool.true_or, Bool.or_true, Bool.false_or, Bool.or_false, if_true, if_false, List.getElem?_nil, Kl_normal, Kl_exit, Kl_ret, bits_i64, cast_lit,
              toNat_lit, Int.reduceAdd, Int.reduceSub, Int.reduceMul, Int.reduceNeg, Int.reducePow, Nat.reducePow, Int.reduceToNat, Nat.reduceSub, Nat.mul_one, Int.toNat_zero,
              prod_eta, List.nil_append, List.cons_append, List.append_nil, vconv, vmm, vidxA, viaddrA, iaddr_sl, iaddr_lsl, getE, vfield, vlen, fillC, fillE, List.replicate,
              elemsOf, List.length_map, f2iK_eq, bits_i64, bits_i32, bits_u64, bits_u32, bits_u8, e_alloc, g_alloc, e_box, g_box, e_build, g_build, e_load, g_load, e_store, g_store,
              e_bin, g_bin, e_faddr, g_faddr]))
    all_goals (try simp only [*, m_impl_AddVectors, Bool.and_true, Bool.true_and, Bool.and_false, Bool.false_and, Bool.or_true, Bool.true_or, Bool.or_false, Bool.false_or, Bool.not_true, Bool.not_false, Bool.false_eq_true, if_true, if_false, reduceIte, decide_true, decide_false])
    all_goals (try (simp_all; done))
  · cases h
def m_impl_TwoBones (x0 : Nat) (x1 : Nat) (x2 : (Nat × Nat × Nat)) (x3 : (Nat × Nat × Nat)) : ((Nat × Nat × Nat) × (Nat × Nat × Nat) × Bool) := (if (m_impl_isPositive x0) = true
      then (if (m_impl_isPositive x1) = true then (if (m_impl_isLength (m_impl_LongOf x2)) = true then (if (flt .f32 (fadd .f32 x0 x1) (m_impl_LongOf x2)) = true then (if (flt .f32
      0 (fsub .f32 (fmul .f32 x0 x0) (fmul .f32 (fdiv .f32 (fadd .f32 (fsub .f32 (fmul .f32 x0 x0) (fmul .f32 x1 x1)) (fmul .f32 (fadd .f32 x0 x1) (fadd .f32 x0 x1))) (fmul .f32
      1073741824 (fadd .f32 x0 x1))) (fdiv .f32 (fadd .f32 (fsub .f32 (fmul .f32 x0 x0) (fmul .f32 x1 x1)) (fmul .f32 (fadd .f32 x0 x1) (fadd .f32 x0 x1))) (fmul .f32 1073741824
      (fadd .f32 x0 x1)))))) = true then (if (m_impl_isLength (m_impl_LongOf (m_impl_LessVectors x3 (m_impl_ScaleVector (m_impl_Vector_over x2 (m_impl_LongOf x2)) (m_impl_InnerOf x3
      (m_impl_Vector_over x2 (m_impl_LongOf x2))))))) = true then ((m_impl_AddVectors (m_impl_ScaleVector (m_impl_Vector_over x2 (m_impl_LongOf x2)) (fdiv .f32 (fadd .f32 (fsub .f32
      (fmul .f32 x0 x0) (fmul .f32 x1 x1)) (fmul .f32 (fadd .f32 x0 x1) (fadd .f32 x0 x1))) (fmul .f32 1073741824 (fadd .f32 x0 x1)))) (m_impl_ScaleVector (m_impl_Vector_over
      (m_impl_LessVectors x3 (m_impl_ScaleVector (m_impl_Vector_over x2 (m_impl_LongOf x2)) (m_impl_InnerOf x3 (m_impl_Vector_over x2 (m_impl_LongOf x2))))) (m_impl_LongOf
      (m_impl_LessVectors x3 (m_impl_ScaleVector (m_impl_Vector_over x2 (m_impl_LongOf x2)) (m_impl_InnerOf x3 (m_impl_Vector_over x2 (m_impl_LongOf x2))))))) (m_impl_RootNumber
      (fsub .f32 (fmul .f32 x0 x0) (fmul .f32 (fdiv .f32 (fadd .f32 (fsub .f32 (fmul .f32 x0 x0) (fmul .f32 x1 x1)) (fmul .f32 (fadd .f32 x0 x1) (fadd .f32 x0 x1))) (fmul .f32
      1073741824 (fadd .f32 x0 x1))) (fdiv .f32 (fadd .f32 (fsub .f32 (fmul .f32 x0 x0) (fmul .f32 x1 x1)) (fmul .f32 (fadd .f32 x0 x1) (fadd .f32 x0 x1))) (fmul .f32 1073741824
      (fadd .f32 x0 x1)))))))), (m_impl_ScaleVector (m_impl_Vector_over x2 (m_impl_LongOf x2)) (fadd .f32 x0 x1)), true) else ((0, 0, 0), (0, 0, 0), false)) else (if
      (m_impl_isLength (m_impl_LongOf (m_impl_LessVectors x3 (m_impl_ScaleVector (m_impl_Vector_over x2 (m_impl_LongOf x2)) (m_impl_InnerOf x3 (m_impl_Vector_over x2 (m_impl_LongOf
      x2))))))) = true then ((m_impl_AddVectors (m_impl_ScaleVector (m_impl_Vector_over x2 (m_impl_LongOf x2)) (fdiv .f32 (fadd .f32 (fsub .f32 (fmul .f32 x0 x0) (fmul .f32 x1 x1))
      (fmul .f32 (fadd .f32 x0 x1) (fadd .f32 x0 x1))) (fmul .f32 1073741824 (fadd .f32 x0 x1)))) (m_impl_ScaleVector (m_impl_Vector_over (m_impl_LessVectors x3 (m_impl_ScaleVector
      (m_impl_Vector_over x2 (m_impl_LongOf x2)) (m_impl_InnerOf x3 (m_impl_Vector_over x2 (m_impl_LongOf x2))))) (m_impl_LongOf (m_impl_LessVectors x3 (m_impl_ScaleVector
      (m_impl_Vector_over x2 (m_impl_LongOf x2)) (m_impl_InnerOf x3 (m_impl_Vector_over x2 (m_impl_LongOf x2))))))) (m_impl_RootNumber 0))), (m_impl_ScaleVector (m_impl_Vector_over
      x2 (m_impl_LongOf x2)) (fadd .f32 x0 x1)), true) else ((0, 0, 0), (0, 0, 0), false))) else (if (flt .f32 0 (fsub .f32 (fmul .f32 x0 x0) (fmul .f32 (fdiv .f32 (fadd .f32 (fsub
      .f32 (fmul .f32 x0 x0) (fmul .f32 x1 x1)) (fmul .f32 (m_impl_LongOf x2) (m_impl_LongOf x2))) (fmul .f32 1073741824 (m_impl_LongOf x2))) (fdiv .f32 (fadd .f32 (fsub .f32 (fmul
      .f32 x0 x0) (fmul .f32 x1 x1)) (fmul .f32 (m_impl_LongOf x2) (m_impl_LongOf x2))) (fmul .f32 1073741824 (m_impl_LongOf x2)))))) = true then (if (m_impl_isLength (m_impl_LongOf
      (m_impl_LessVectors x3 (m_impl_ScaleVector (m_impl_Vector_over x2 (m_impl_LongOf x2)) (m_impl_InnerOf x3 (m_impl_Vector_over x2 (m_impl_LongOf x2))))))) = true then
      ((m_impl_AddVectors (m_impl_ScaleVector (m_impl_Vector_over x2 (m_impl_LongOf x2)) (fdiv .f32 (fadd .f32 (fsub .f32 (fmul .f32 x0 x0) (fmul .f32 x1 x1)) (fmul .f32
      (m_impl_LongOf x2) (m_impl_LongOf x2))) (fmul .f32 1073741824 (m_impl_LongOf x2)))) (m_impl_ScaleVector (m_impl_Vector_over (m_impl_LessVectors x3 (m_impl_ScaleVector
      (m_impl_Vector_over x2 (m_impl_LongOf x2)) (m_impl_InnerOf x3 (m_impl_Vector_over x2 (m_impl_LongOf x2))))) (m_impl_LongOf (m_impl_LessVectors x3 (m_impl_ScaleVector
      (m_impl_Vector_over x2 (m_impl_LongOf x2)) (m_impl_InnerOf x3 (m_impl_Vector_over x2 (m_impl_LongOf x2))))))) (m_impl_RootNumber (fsub .f32 (fmul .f32 x0 x0) (fmul .f32 (fdiv
      .f32 (fadd .f32 (fsub .f32 (fmul .f32 x0 x0) (fmul .f32 x1 x1)) (fmul .f32 (m_impl_LongOf x2) (m_impl_LongOf x2))) (fmul .f32 1073741824 (m_impl_LongOf x2))) (fdiv .f32 (fadd
      .f32 (fsub .f32 (fmul .f32 x0 x0) (fmul .f32 x1 x1)) (fmul .f32 (m_impl_LongOf x2) (m_impl_LongOf x2))) (fmul .f32 1073741824 (m_impl_LongOf x2)))))))), (m_impl_ScaleVector
      (m_impl_Vector_over x2 (m_impl_LongOf x2)) (m_impl_LongOf x2)), true) else ((0, 0, 0), (0, 0, 0), false)) else (if (m_impl_isLength (m_impl_LongOf (m_impl_LessVectors x3
      (m_impl_ScaleVector (m_impl_Vector_over x2 (m_impl_LongOf x2)) (m_impl_InnerOf x3 (m_impl_Vector_over x2 (m_impl_LongOf x2))))))) = true then ((m_impl_AddVectors
      (m_impl_ScaleVector (m_impl_Vector_over x2 (m_impl_LongOf x2)) (fdiv .f32 (fadd .f32 (fsub .f32 (fmul .f32 x0 x0) (fmul .f32 x1 x1)) (fmul .f32 (m_impl_LongOf x2)
      (m_impl_LongOf x2))) (fmul .f32 1073741824 (m_impl_LongOf x2)))) (m_impl_ScaleVector (m_impl_Vector_over (m_impl_LessVectors x3 (m_impl_ScaleVector (m_impl_Vector_over x2
      (m_impl_LongOf x2)) (m_impl_InnerOf x3 (m_impl_Vector_over x2 (m_impl_LongOf x2))))) (m_impl_LongOf (m_impl_LessVectors x3 (m_impl_ScaleVector (m_impl_Vector_over x2
      (m_impl_LongOf x2)) (m_impl_InnerOf x3 (m_impl_Vector_over x2 (m_impl_LongOf x2))))))) (m_impl_RootNumber 0))), (m_impl_ScaleVector (m_impl_Vector_over x2 (m_impl_LongOf x2))
      (m_impl_LongOf x2)), true) else ((0, 0, 0), (0, 0, 0), false)))) else ((0, 0, 0), (0, 0, 0), false)) else ((0, 0, 0), (0, 0, 0), false)) else ((0, 0, 0), (0, 0, 0), false))
def p_impl_TwoBones (x0 : Nat) (x1 : Nat) (x2 : (Nat × Nat × Nat)) (x3 : (Nat × Nat × Nat)) : Bool := ((p_impl_LongOf x2) && (!(m_impl_isPositive x0) || (!(m_impl_isPositive x1) ||
      (!(m_impl_isLength (m_impl_LongOf x2)) || (if (flt .f32 (fadd .f32 x0 x1) (m_impl_LongOf x2)) = true then (if (flt .f32 0 (fsub .f32 (fmul .f32 x0 x0) (fmul .f32 (fdiv .f32
      (fadd .f32 (fsub .f32 (fmul .f32 x0 x0) (fmul .f32 x1 x1)) (fmul .f32 (fadd .f32 x0 x1) (fadd .f32 x0 x1))) (fmul .f32 1073741824 (fadd .f32 x0 x1))) (fdiv .f32 (fadd .f32
      (fsub .f32 (fmul .f32 x0 x0) (fmul .f32 x1 x1)) (fmul .f32 (fadd .f32 x0 x1) (fadd .f32 x0 x1))) (fmul .f32 1073741824 (fadd .f32 x0 x1)))))) = true then ((p_impl_RootNumber
      (fsub .f32 (fmul .f32 x0 x0) (fmul .f32 (fdiv .f32 (fadd .f32 (fsub .f32 (fmul .f32 x0 x0) (fmul .f32 x1 x1)) (fmul .f32 (fadd .f32 x0 x1) (fadd .f32 x0 x1))) (fmul .f32
      1073741824 (fadd .f32 x0 x1))) (fdiv .f32 (fadd .f32 (fsub .f32 (fmul .f32 x0 x0) (fmul .f32 x1 x1)) (fmul .f32 (fadd .f32 x0 x1) (fadd .f32 x0 x1))) (fmul .f32 1073741824
      (fadd .f32 x0 x1)))))) && (p_impl_LongOf (m_impl_LessVectors x3 (m_impl_ScaleVector (m_impl_Vector_over x2 (m_impl_LongOf x2)) (m_impl_InnerOf x3 (m_impl_Vector_over x2
      (m_impl_LongOf x2))))))) else ((p_impl_RootNumber 0) && (p_impl_LongOf (m_impl_LessVectors x3 (m_impl_ScaleVector (m_impl_Vector_over x2 (m_impl_LongOf x2)) (m_impl_InnerOf x3
      (m_impl_Vector_over x2 (m_impl_LongOf x2)))))))) else (if (flt .f32 0 (fsub .f32 (fmul .f32 x0 x0) (fmul .f32 (fdiv .f32 (fadd .f32 (fsub .f32 (fmul .f32 x0 x0) (fmul .f32 x1
      x1)) (fmul .f32 (m_impl_LongOf x2) (m_impl_LongOf x2))) (fmul .f32 1073741824 (m_impl_LongOf x2))) (fdiv .f32 (fadd .f32 (fsub .f32 (fmul .f32 x0 x0) (fmul .f32 x1 x1)) (fmul
      .f32 (m_impl_LongOf x2) (m_impl_LongOf x2))) (fmul .f32 1073741824 (m_impl_LongOf x2)))))) = true then ((p_impl_RootNumber (fsub .f32 (fmul .f32 x0 x0) (fmul .f32 (fdiv .f32
      (fadd .f32 (fsub .f32 (fmul .f32 x0 x0) (fmul .f32 x1 x1)) (fmul .f32 (m_impl_LongOf x2) (m_impl_LongOf x2))) (fmul .f32 1073741824 (m_impl_LongOf x2))) (fdiv .f32 (fadd .f32
      (fsub .f32 (fmul .f32 x0 x0) (fmul .f32 x1 x1)) (fmul .f32 (m_impl_LongOf x2) (m_impl_LongOf x2))) (fmul .f32 1073741824 (m_impl_LongOf x2)))))) && (p_impl_LongOf
      (m_impl_LessVectors x3 (m_impl_ScaleVector (m_impl_Vector_over x2 (m_impl_LongOf x2)) (m_impl_InnerOf x3 (m_impl_Vector_over x2 (m_impl_LongOf x2))))))) else
      ((p_impl_RootNumber 0) && (p_impl_LongOf (m_impl_LessVectors x3 (m_impl_ScaleVector (m_impl_Vector_over x2 (m_impl_LongOf x2)) (m_impl_InnerOf x3 (m_impl_Vector_over x2
      (m_impl_LongOf x2)))))))))))))
def g_impl_TwoBones : List AV → Option AV
  | [.flt .f32 y0, .flt .f32 y1, .agg [.flt .f32 y2, .flt .f32 y3, .flt .f32 y4], .agg [.flt .f32 y5, .flt .f32 y6, .flt .f32 y7]] => if
      p_impl_TwoBones y0 y1 (y2, y3, y4) (y5, y6, y7) = true then some (AV.tup [(AV.agg [(.flt .f32 (m_impl_TwoBones y0 y1 (y2, y3, y4) (y5, y6, y7)).1.1), (.flt .f32
      (m_impl_TwoBones y0 y1 (y2, y3, y4) (y5, y6, y7)).1.2.1), (.flt .f32 (m_impl_TwoBones y0 y1 (y2, y3, y4) (y5, y6, y7)).1.2.2)]), (AV.agg [(.flt .f32 (m_impl_TwoBones y0 y1
      (y2, y3, y4) (y5, y6, y7)).2.1.1), (.flt .f32 (m_impl_TwoBones y0 y1 (y2, y3, y4) (y5, y6, y7)).2.1.2.1), (.flt .f32 (m_impl_TwoBones y0 y1 (y2, y3, y4) (y5, y6,
      y7)).2.1.2.2)]), (.bool (m_impl_TwoBones y0 y1 (y2, y3, y4) (y5, y6, y7)).2.2)]) else none
  | _ => none
def ic13 : ICode := (.seq (.reg [⟨(some 6), none, (.box 3 (.t 2))⟩, ⟨(some 7), none, (.box 3 (.t 3))⟩, ⟨(some 8), none, (.alloc (.agg [(.flt .f32 0), (.flt .f32 0), (.flt .f32
      0)]))⟩, ⟨(some 9), none, (.alloc (.agg [(.flt .f32 0), (.flt .f32 0), (.flt .f32 0)]))⟩, ⟨(some 10), none, (.mov (.c (.bool false)))⟩] [0, 1, 6, 7, 8, 9]) (.seq (.reg [⟨(some
      19), none, (.load (some 3) (.t 6))⟩, ⟨(some 20), none, (.call (.fn 42) [(.t 19)] [])⟩, ⟨(some 11), none, (.mov (.t 20))⟩] [0, 1, 6, 7, 8, 9, 11]) (.seq (.seq (.reg [⟨(some
      21), none, (.mov (.t 0))⟩, ⟨(some 22), none, (.call (.fn 43) [(.t 21)] [])⟩, ⟨(some 23), none, (.un .not (.t 22))⟩, ⟨(some 24), none, (.mov (.t 23))⟩, ⟨(some 25), (some (24,
      false)), (.mov (.t 1))⟩, ⟨(some 26), (some (24, false)), (.call (.fn 43) [(.t 25)] [])⟩, ⟨(some 27), (some (24, false)), (.un .not (.t 26))⟩, ⟨(some 28), none, (.pick (.t 24)
      (.c (.bool true)) (.t 27))⟩, ⟨(some 29), none, (.mov (.t 28))⟩, ⟨(some 30), (some (29, false)), (.mov (.t 11))⟩, ⟨(some 31), (some (29, false)), (.call (.fn 44) [(.t 30)]
      [])⟩, ⟨(some 32), (some (29, false)), (.un .not (.t 31))⟩, ⟨(some 33), none, (.pick (.t 29) (.c (.bool true)) (.t 32))⟩] [0, 1, 6, 7, 8, 9, 11, 33]) (.cond (.t 33) (.seq (.reg
      [⟨(some 34), none, (.build [(.flt .f32 0), (.flt .f32 0), (.flt .f32 0)] [])⟩, ⟨(some 35), none, (.build [(.flt .f32 0), (.flt .f32 0), (.flt .f32 0)] [])⟩, ⟨none, none,
      (.store 3 (.t 8) (.t 34))⟩, ⟨none, none, (.store 3 (.t 9) (.t 35))⟩, ⟨(some 10), none, (.mov (.c (.bool false)))⟩] [8, 9, 10]) .ret) .skip)) (.seq (.reg [⟨(some 36), none,
      (.load (some 3) (.t 6))⟩, ⟨(some 37), none, (.mov (.t 11))⟩, ⟨(some 38), none, (.call (.fn 45) [(.t 36), (.t 37)] [])⟩, ⟨(some 12), none, (.alloc (.agg [(.flt .f32 0), (.flt
      .f32 0), (.flt .f32 0)]))⟩, ⟨none, none, (.store 3 (.t 12) (.t 38))⟩] [0, 1, 7, 8, 9, 11, 12]) (.seq (.reg [⟨(some 39), none, (.mov (.t 11))⟩, ⟨(some 13), none, (.mov (.t
      39))⟩] [0, 1, 7, 8, 9, 12, 13]) (.seq (.seq (.reg [⟨(some 40), none, (.mov (.t 0))⟩, ⟨(some 41), none, (.mov (.t 1))⟩, ⟨(some 42), none, (.bin .add false (.t 40) (.t 41))⟩,
      ⟨(some 14), none, (.mov (.t 42))⟩] [0, 1, 7, 8, 9, 12, 13, 14]) (.seq (.reg [⟨(some 43), none, (.mov (.t 13))⟩, ⟨(some 44), none, (.mov (.t 14))⟩, ⟨(some 45), none, (.bin .gtr
      false (.t 43) (.t 44))⟩] [0, 1, 7, 8, 9, 12, 13, 14, 45]) (.cond (.t 45) (.reg [⟨(some 46), none, (.mov (.t 14))⟩, ⟨(some 13), none, (.mov (.t 46))⟩] [0, 1, 7, 8, 9, 12, 13])
      .skip))) (.seq (.reg [⟨(some 47), none, (.mov (.t 0))⟩, ⟨(some 48), none, (.mov (.t 0))⟩, ⟨(some 49), none, (.bin .mul false (.t 47) (.t 48))⟩, ⟨(some 50), none, (.mov (.t
      1))⟩, ⟨(some 51), none, (.mov (.t 1))⟩, ⟨(some 52), none, (.bin .mul false (.t 50) (.t 51))⟩, ⟨(some 53), none, (.bin .sub false (.t 49) (.t 52))⟩, ⟨(some 54), none, (.mov (.t
      13))⟩, ⟨(some 55), none, (.mov (.t 13))⟩, ⟨(some 56), none, (.bin .mul false (.t 54) (.t 55))⟩, ⟨(some 57), none, (.bin .add false (.t 53) (.t 56))⟩, ⟨(some 58), none, (.mov
      (.t 13))⟩, ⟨(some 59), none, (.bin .mul false (.c (.flt .f32 1073741824)) (.t 58))⟩, ⟨(some 60), none, (.bin .quo false (.t 57) (.t 59))⟩, ⟨(some 15), none, (.mov (.t 60))⟩]
      [0, 7, 8, 9, 12, 13, 15]) (.seq (.reg [⟨(some 61), none, (.mov (.t 0))⟩, ⟨(some 62), none, (.mov (.t 0))⟩, ⟨(some 63), none, (.bin .mul false (.t 61) (.t 62))⟩, ⟨(some 64),
      none, (.mov (.t 15))⟩, ⟨(some 65), none, (.mov (.t 15))⟩, ⟨(some 66), none, (.bin .mul false (.t 64) (.t 65))⟩, ⟨(some 67), none, (.bin .sub false (.t 63) (.t 66))⟩, ⟨(some
      16), none, (.mov (.t 67))⟩] [7, 8, 9, 12, 13, 15, 16]) (.seq (.seq (.reg [⟨(some 68), none, (.mov (.t 16))⟩, ⟨(some 69), none, (.bin .gtr false (.t 68) (.c (.flt .f32 0)))⟩,
      ⟨(some 70), none, (.un .not (.t 69))⟩] [7, 8, 9, 12, 13, 15, 16, 70]) (.cond (.t 70) (.reg [⟨(some 16), none, (.mov (.c (.flt .f32 0)))⟩] [7, 8, 9, 12, 13, 15, 16]) .skip))
      (.seq (.reg [⟨(some 71), none, (.mov (.t 16))⟩, ⟨(some 72), none, (.call (.fn 46) [(.t 71)] [])⟩, ⟨(some 16), none, (.mov (.t 72))⟩] [7, 8, 9, 12, 13, 15, 16]) (.seq (.reg
      [⟨(some 73), none, (.load (some 3) (.t 7))⟩, ⟨(some 74), none, (.load (some 3) (.t 12))⟩, ⟨(some 75), none, (.load (some 3) (.t 7))⟩, ⟨(some 76), none, (.load (some 3) (.t
      12))⟩, ⟨(some 77), none, (.call (.fn 49) [(.t 75), (.t 76)] [])⟩, ⟨(some 78), none, (.call (.fn 48) [(.t 74), (.t 77)] [])⟩, ⟨(some 79), none, (.call (.fn 47) [(.t 73), (.t
      78)] [])⟩, ⟨(some 17), none, (.alloc (.agg [(.flt .f32 0), (.flt .f32 0), (.flt .f32 0)]))⟩, ⟨none, none, (.store 3 (.t 17) (.t 79))⟩] [8, 9, 12, 13, 15, 16, 17]) (.seq (.reg
      [⟨(some 80), none, (.load (some 3) (.t 17))⟩, ⟨(some 81), none, (.call (.fn 42) [(.t 80)] [])⟩, ⟨(some 18), none, (.mov (.t 81))⟩] [8, 9, 12, 13, 15, 16, 17, 18]) (.seq (.seq
      (.reg [⟨(some 82), none, (.mov (.t 18))⟩, ⟨(some 83), none, (.call (.fn 44) [(.t 82)] [])⟩, ⟨(some 84), none, (.un .not (.t 83))⟩] [8, 9, 12, 13, 15, 16, 17, 18, 84]) (.cond
      (.t 84) (.seq (.reg [⟨(some 85), none, (.build [(.flt .f32 0), (.flt .f32 0), (.flt .f32 0)] [])⟩, ⟨(some 86), none, (.build [(.flt .f32 0), (.flt .f32 0), (.flt .f32 0)]
      [])⟩, ⟨none, none, (.store 3 (.t 8) (.t 85))⟩, ⟨none, none, (.store 3 (.t 9) (.t 86))⟩, ⟨(some 10), none, (.mov (.c (.bool false)))⟩] [8, 9, 10]) .ret) .skip)) (.seq (.reg
      [⟨(some 87), none, (.load (some 3) (.t 17))⟩, ⟨(some 88), none, (.mov (.t 18))⟩, ⟨(some 89), none, (.call (.fn 45) [(.t 87), (.t 88)] [])⟩, ⟨none, none, (.store 3 (.t 17) (.t
      89))⟩] [8, 9, 12, 13, 15, 16, 17]) (.seq (.reg [⟨(some 90), none, (.load (some 3) (.t 12))⟩, ⟨(some 91), none, (.mov (.t 15))⟩, ⟨(some 92), none, (.call (.fn 48) [(.t 90), (.t
      91)] [])⟩, ⟨(some 93), none, (.load (some 3) (.t 17))⟩, ⟨(some 94), none, (.mov (.t 16))⟩, ⟨(some 95), none, (.call (.fn 48) [(.t 93), (.t 94)] [])⟩, ⟨(some 96), none, (.call
      (.fn 50) [(.t 92), (.t 95)] [])⟩, ⟨(some 97), none, (.load (some 3) (.t 12))⟩, ⟨(some 98), none, (.mov (.t 13))⟩, ⟨(some 99), none, (.call (.fn 48) [(.t 97), (.t 98)] [])⟩,
      ⟨none, none, (.store 3 (.t 8) (.t 96))⟩, ⟨none, none, (.store 3 (.t 9) (.t 99))⟩, ⟨(some 10), none, (.mov (.c (.bool true)))⟩] [8, 9, 10]) .ret)))))))))))))))
def cp13 : CP := { n := 100, kp := [[0, 1, 6, 7, 8, 9], [0, 1, 6, 7, 8, 9, 11], [0, 1, 6, 7, 8, 9, 11, 33], [8, 9, 10], [0, 1, 7, 8, 9, 11, 12], [0, 1, 7, 8, 9, 12, 13], [0, 1, 7,
      8, 9, 12, 13, 14], [0, 1, 7, 8, 9, 12, 13, 14, 45], [0, 1, 7, 8, 9, 12, 13], [0, 7, 8, 9, 12, 13, 15], [7, 8, 9, 12, 13, 15, 16], [7, 8, 9, 12, 13, 15, 16, 70], [7, 8, 9, 12,
      13, 15, 16], [7, 8, 9, 12, 13, 15, 16], [8, 9, 12, 13, 15, 16, 17], [8, 9, 12, 13, 15, 16, 17, 18], [8, 9, 12, 13, 15, 16, 17, 18, 84], [8, 9, 10], [8, 9, 12, 13, 15, 16, 17],
      [8, 9, 10]] }
theorem s13 : ∀ vs r, g_impl_TwoBones vs = some r → Says Try.prog 13 vs r := by
  intro vs r h
  unfold g_impl_TwoBones at h
  split at h
  · rename_i y0 y1 y2 y3 y4 y5 y6 y7
    split at h
    · rename_i hp
      cases h
      refine spec_of (tab := tabOf [(42, g_impl_LongOf), (43, g_impl_isPositive), (44, g_impl_isLength), (45, g_impl_Vector_over), (46, g_impl_RootNumber), (47, g_impl_LessVectors), (48, g_impl_ScaleVector), (49, g_impl_InnerOf), (50, g_impl_AddVectors)]) (cp := cp13) (ic := ic13) (rvl := [(.c 8 (some 3)), (.c 9 (some 3)), (.t 10)]) hm (tabOk_cons s42 (tabOk_cons s43 (tabOk_cons s44 (tabOk_cons s45 (tabOk_cons s46 (tabOk_cons s47 (tabOk_cons s48 (tabOk_cons s49 (tabOk_cons s50 tabOk_nil))))))))) Try.func13 rfl rfl rfl (by kernel_rfl) rfl (Nat.le_of_ble_eq_true rfl) ?_
      show eA _ _ _ _
      unfold ic13
      simp only [p_impl_TwoBones, Bool.and_eq_true, Bool.or_eq_true, decide_eq_true_eq, Bool.not_eq_true', decide_eq_false_iff_not] at hp
      simp only [
          hp, eA_seq, eA_reg, eA_ret, eA_skip, eA_cond, eA_block, eA_exit, eCc_true, eCc_false, Kq_normal, Kq_ret, Kq_exit, Kb_normal, Kb_exit, Kb_ret, Kreg_eq, eI_nil, bindSt_some,
                bindSt_none, bindSt_ite, eR_eq, eGI_tt, eGI_ff, eGI_tf, eGI_ft, eop, vop, ev_t, ev_c, ev_f, Option.map, put_some, put_none, set_eq, setH_eq, get_eq, hp_eq,
                keep_cons, keep_nil, lk_cons, lk_nil, startSt, envOf, reduceIte, Nat.reduceEqDiff, Nat.reduceAdd, Nat.zero_add, Nat.add_zero, Nat.reduceMul, Nat.reduceLT,
                Nat.reduceLeDiff, bop, uop, intop, fltop, convop, true_or, or_true, Bool.false_eq_true, ret_ok, ret_normal, outV, rvV, rvs, ex_some, pureV, pureX, pureX.pure1',
                pure1, Bool.true_and, Bool.false_and, Bool.and_true, Bool.and_false, Option.isNone_none, AV.cells, AV.one, storable, laid, refless, refless1, List.all_cons,
                List.all_nil, List.length_cons, List.length_nil, List.getElem?_cons_zero, List.getElem?_cons_succ, List.set_cons_zero, List.set_cons_succ, List.set_nil,
                List.map_cons, List.map_nil, vload, loadC, storeC, vnil, vfaddr, vextract, callTo, List.mapM_cons, List.mapM_nil, Option.pure_def, Option.bind_eq_bind,
                Option.bind_some, tabOf_cons, flatT, flatE, flatC, and_self, and_true, true_and, implies_true, forall_const, not_true_eq_false, not_false_eq_true, false_implies,
                List.take_succ_cons, List.drop_succ_cons, List.take_zero, List.drop_zero, Bool.not_true, Bool.not_false, beq_self_eq_true, decide_true, decide_false, eq_self,
                Int.reduceEq, Int.reduceLE, Int.reduceLT, Bool.not_not, Bool.true_or, Bool.or_true, Bool.false_or, Bool.or_false, if_true, if_false, List.getElem?_nil, Kl_normal,
                Kl_exit, Kl_ret, bits_i64, cast_lit, toNat_lit, Int.reduceAdd, Int.reduceSub, Int.reduceMul, Int.reduceNeg, Int.reducePow, Nat.reducePow, Int.reduceToNat,
                Nat.reduceSub, Nat.mul_one, Int.toNat_zero, prod_eta, List.nil_append, List.cons_append, List.append_nil, vconv, vmm, vidxA, viaddrA, iaddr_sl, iaddr_lsl, getE,
                vfield, vlen, fillC, fillE, List.replicate, elemsOf, List.length_map, f2iK_eq, bits_i64, bits_i32, bits_u64, bits_u32, bits_u8, e_mov, g_mov, e_pick, g_pick,
                e_alloc, g_alloc, e_box, g_box, e_build, g_build, e_load, g_load, e_store, g_store, e_bin, g_bin, e_un, g_un, e_call, g_call, g_impl_LongOf, g_impl_isPositive,
                g_impl_isLength, g_impl_Vector_over, g_impl_RootNumber, g_impl_LessVectors, g_impl_ScaleVector, g_impl_InnerOf, g_impl_AddVectors, ↓b_pick, ePk_true, ePk_false]
      repeat' (first
        | ((first | (refine eGI_of (fun h => ?_) (fun h => ?_)) | (refine eCc_of (fun h => ?_) (fun h => ?_)) | (refine ePk_of (fun h => ?_) (fun h => ?_))) <;> (try simp only [Bool.not_eq_true', Bool.not_eq_false'] at h) <;> (try simp only [h, reduceCtorEq, Bool.not_eq_true', decide_eq_false_iff_not, Bool.not_true, Bool.not_false, Bool.false_or, Bool.true_or, Bool.true_and, Bool.false_and, Bool.and_eq_true, Bool.or_eq_true, if_true, if_false, reduceIte, Bool.false_eq_true, and_true, true_and, false_or, or_false, decide_eq_true_eq, not_false_eq_true, not_true_eq_false] at hp) <;> (try (have h2 := h; simp only [decide_eq_true_eq, decide_eq_false_iff_not] at h2; simp only [h2, if_true, if_false, false_or, true_or, or_true, or_false, and_true, true_and, not_false_eq_true, not_true_eq_false] at hp)) <;> simp only [h,
          hp, eA_seq, eA_reg, eA_ret, eA_skip, eA_cond, eA_block, eA_exit, eCc_true, eCc_false, Kq_normal, Kq_ret, Kq_exit, Kb_normal, Kb_exit, Kb_ret, Kreg_eq, eI_nil, bindSt_some,
                bindSt_none, bindSt_ite, eR_eq, eGI_tt, eGI_ff, eGI_tf, eGI_ft, eop, vop, ev_t, ev_c, ev_f, Option.map, put_some, put_none, set_eq, setH_eq, get_eq, hp_eq,
                keep_cons, keep_nil, lk_cons, lk_nil, startSt, envOf, reduceIte, Nat.reduceEqDiff, Nat.reduceAdd, Nat.zero_add, Nat.add_zero, Nat.reduceMul, Nat.reduceLT,
                Nat.reduceLeDiff, bop, uop, intop, fltop, convop, true_or, or_true, Bool.false_eq_true, ret_ok, ret_normal, outV, rvV, rvs, ex_some, pureV, pureX, pureX.pure1',
                pure1, Bool.true_and, Bool.false_and, Bool.and_true, Bool.and_false, Option.isNone_none, AV.cells, AV.one, storable, laid, refless, refless1, List.all_cons,
                List.all_nil, List.length_cons, List.length_nil, List.getElem?_cons_zero, List.getElem?_cons_succ, List.set_cons_zero, List.set_cons_succ, List.set_nil,
                List.map_cons, List.map_nil, vload, loadC, storeC, vnil, vfaddr, vextract, callTo, List.mapM_cons, List.mapM_nil, Option.pure_def, Option.bind_eq_bind,
                Option.bind_some, tabOf_cons, flatT, flatE, flatC, and_self, and_true, true_and, implies_true, forall_const, not_true_eq_false, not_false_eq_true, false_implies,
                List.take_succ_cons, List.drop_succ_cons, List.take_zero, List.drop_zero, Bool.not_true, Bool.not_false, beq_self_eq_true, decide_true, decide_false, eq_self,
                Int.reduceEq, Int.reduceLE, Int.reduceLT, Bool.not_not, Bool.true_or, Bool.or_true, Bool.false_or, Bool.or_false, if_true, if_false, List.getElem?_nil, Kl_normal,
                Kl_exit, Kl_ret, bits_i64, cast_lit, toNat_lit, Int.reduceAdd, Int.reduceSub, Int.reduceMul, Int.reduceNeg, Int.reducePow, Nat.reducePow, Int.reduceToNat,
                Nat.reduceSub, Nat.mul_one, Int.toNat_zero, prod_eta, List.nil_append, List.cons_append, List.append_nil, vconv, vmm, vidxA, viaddrA, iaddr_sl, iaddr_lsl, getE,
                vfield, vlen, fillC, fillE, List.replicate, elemsOf, List.length_map, f2iK_eq, bits_i64, bits_i32, bits_u64, bits_u32, bits_u8, e_mov, g_mov, e_pick, g_pick,
                e_alloc, g_alloc, e_box, g_box, e_build, g_build, e_load, g_load, e_store, g_store, e_bin, g_bin, e_un, g_un, e_call, g_call, g_impl_LongOf, g_impl_isPositive,
                g_impl_isLength, g_impl_Vector_over, g_impl_RootNumber, g_impl_LessVectors, g_impl_ScaleVector, g_impl_InnerOf, g_impl_AddVectors, ↓b_pick, ePk_true, ePk_false]))
      all_goals (try simp only [*, m_impl_TwoBones, Bool.and_true, Bool.true_and, Bool.and_false, Bool.false_and, Bool.or_true, Bool.true_or, Bool.or_false, Bool.false_or, Bool.not_true, Bool.not_false, Bool.false_eq_true, if_true, if_false, reduceIte, decide_true, decide_false])
      all_goals (try (simp_all; done))
    · cases h
  · cases h
def m_laws_sameFloat (x0 : Nat) (x1 : Nat) : Bool := (if (feq .f64 x0 x0) = true then (if (feq .f64 x1 x1) = true then (if (feq .f64 x0 0) = true then (if (feq .f64 x1 0) = true
      then ((flt .f64 0 (fdiv .f64 4607182418800017408 x0)) == (flt .f64 0 (fdiv .f64 4607182418800017408 x1))) else (feq .f64 x0 x1)) else (feq .f64 x0 x1)) else false) else (!(feq
      .f64 x1 x1)))
def g_laws_sameFloat : List AV → Option AV
  | [.flt .f64 y0, .flt .f64 y1] => some (.bool (m_laws_sameFloat y0 y1))
  | _ => none
def ic24 : ICode := (.seq (.reg [⟨(some 4), none, (.mov (.c (.bool false)))⟩] [0, 1]) (.seq (.seq (.reg [⟨(some 5), none, (.mov (.t 0))⟩, ⟨(some 6), none, (.mov (.t 0))⟩, ⟨(some 7),
      none, (.bin .neq false (.t 5) (.t 6))⟩, ⟨(some 8), none, (.mov (.t 7))⟩, ⟨(some 9), (some (8, false)), (.mov (.t 1))⟩, ⟨(some 10), (some (8, false)), (.mov (.t 1))⟩, ⟨(some
      11), (some (8, false)), (.bin .neq false (.t 9) (.t 10))⟩, ⟨(some 12), none, (.pick (.t 8) (.c (.bool true)) (.t 11))⟩] [0, 1, 12]) (.cond (.t 12) (.seq (.reg [⟨(some 13),
      none, (.mov (.t 0))⟩, ⟨(some 14), none, (.mov (.t 0))⟩, ⟨(some 15), none, (.bin .neq false (.t 13) (.t 14))⟩, ⟨(some 16), none, (.mov (.t 15))⟩, ⟨(some 17), (some (16, true)),
      (.mov (.t 1))⟩, ⟨(some 18), (some (16, true)), (.mov (.t 1))⟩, ⟨(some 19), (some (16, true)), (.bin .neq false (.t 17) (.t 18))⟩, ⟨(some 20), none, (.pick (.t 16) (.t 19) (.c
      (.bool false)))⟩, ⟨(some 4), none, (.mov (.t 20))⟩] [4]) .ret) .skip)) (.seq (.seq (.reg [⟨(some 21), none, (.mov (.t 0))⟩, ⟨(some 22), none, (.bin .eql false (.t 21) (.c
      (.flt .f64 0)))⟩, ⟨(some 23), none, (.mov (.t 22))⟩, ⟨(some 24), (some (23, true)), (.mov (.t 1))⟩, ⟨(some 25), (some (23, true)), (.bin .eql false (.t 24) (.c (.flt .f64
      0)))⟩, ⟨(some 26), none, (.pick (.t 23) (.t 25) (.c (.bool false)))⟩] [0, 1, 26]) (.cond (.t 26) (.seq (.reg [⟨(some 27), none, (.mov (.t 0))⟩, ⟨(some 28), none, (.bin .quo
      false (.c (.flt .f64 4607182418800017408)) (.t 27))⟩, ⟨(some 29), none, (.bin .gtr false (.t 28) (.c (.flt .f64 0)))⟩, ⟨(some 30), none, (.mov (.t 1))⟩, ⟨(some 31), none,
      (.bin .quo false (.c (.flt .f64 4607182418800017408)) (.t 30))⟩, ⟨(some 32), none, (.bin .gtr false (.t 31) (.c (.flt .f64 0)))⟩, ⟨(some 33), none, (.bin .eql true (.t 29) (.t
      32))⟩, ⟨(some 4), none, (.mov (.t 33))⟩] [4]) .ret) .skip)) (.seq (.reg [⟨(some 34), none, (.mov (.t 0))⟩, ⟨(some 35), none, (.mov (.t 1))⟩, ⟨(some 36), none, (.bin .eql false
      (.t 34) (.t 35))⟩, ⟨(some 4), none, (.mov (.t 36))⟩] [4]) .ret))))
def cp24 : CP := { n := 37, kp := [[0, 1], [0, 1, 12], [4], [0, 1, 26], [4], [4]] }
theorem s24 : ∀ vs r, g_laws_sameFloat vs = some r → Says Try.prog 24 vs r := by
  intro vs r h
  unfold g_laws_sameFloat at h
  split at h
  · rename_i y0 y1
    cases h
    refine spec_of (tab := tabOf []) (cp := cp24) (ic := ic24) (rvl := [(.t 4)]) hm tabOk_nil Try.func24 rfl rfl rfl (by kernel_rfl) rfl (Nat.le_of_ble_eq_true rfl) ?_
    show eA _ _ _ _
    unfold ic24
    simp only [
        eA_seq, eA_reg, eA_ret, eA_skip, eA_cond, eA_block, eA_exit, eCc_true, eCc_false, Kq_normal, Kq_ret, Kq_exit, Kb_normal, Kb_exit, Kb_ret, Kreg_eq, eI_nil, bindSt_some,
              bindSt_none, bindSt_ite, eR_eq, eGI_tt, eGI_ff, eGI_tf, eGI_ft, eop, vop, ev_t, ev_c, ev_f, Option.map, put_some, put_none, set_eq, setH_eq, get_eq, hp_eq, keep_cons,
              keep_nil, lk_cons, lk_nil, startSt, envOf, reduceIte, Nat.reduceEqDiff, Nat.reduceAdd, Nat.zero_add, Nat.add_zero, Nat.reduceMul, Nat.reduceLT, Nat.reduceLeDiff, bop,
              uop, intop, fltop, convop, true_or, or_true, Bool.false_eq_true, ret_ok, ret_normal, outV, rvV, rvs, ex_some, pureV, pureX, pureX.pure1', pure1, Bool.true_and,
              Bool.false_and, Bool.and_true, Bool.and_false, Option.isNone_none, AV.cells, AV.one, storable, laid, refless, refless1, List.all_cons, List.all_nil, List.length_cons,
              List.length_nil, List.getElem?_cons_zero, List.getElem?_cons_succ, List.set_cons_zero, List.set_cons_succ, List.set_nil, List.map_cons, List.map_nil, vload, loadC,
              storeC, vnil, vfaddr, vextract, callTo, List.mapM_cons, List.mapM_nil, Option.pure_def, Option.bind_eq_bind, Option.bind_some, tabOf_cons, flatT, flatE, flatC,
              and_self, and_true, true_and, implies_true, forall_const, not_true_eq_false, not_false_eq_true, false_implies, List.take_succ_cons, List.drop_succ_cons,
              List.take_zero, List.drop_zero, Bool.not_true, Bool.not_false, beq_self_eq_true, decide_true, decide_false, eq_self, Int.reduceEq, Int.reduceLE, Int.reduceLT,
              Bool.not_not, Bool.true_or, Bool.or_true, Bool.false_or, Bool.or_false, if_true, if_false, List.getElem?_nil, Kl_normal, Kl_exit, Kl_ret, bits_i64, cast_lit,
              toNat_lit, Int.reduceAdd, Int.reduceSub, Int.reduceMul, Int.reduceNeg, Int.reducePow, Nat.reducePow, Int.reduceToNat, Nat.reduceSub, Nat.mul_one, Int.toNat_zero,
              prod_eta, List.nil_append, List.cons_append, List.append_nil, vconv, vmm, vidxA, viaddrA, iaddr_sl, iaddr_lsl, getE, vfield, vlen, fillC, fillE, List.replicate,
              elemsOf, List.length_map, f2iK_eq, bits_i64, bits_i32, bits_u64, bits_u32, bits_u8, e_mov, g_mov, e_pick, g_pick, e_bin, g_bin, ↓b_pick, ePk_true, ePk_false]
    repeat' (first
      | ((first | (refine eGI_of (fun h => ?_) (fun h => ?_)) | (refine eCc_of (fun h => ?_) (fun h => ?_)) | (refine ePk_of (fun h => ?_) (fun h => ?_))) <;> (try simp only [Bool.not_eq_true', Bool.not_eq_false'] at h) <;> simp only [h,
        eA_seq, eA_reg, eA_ret, eA_skip, eA_cond, eA_block, eA_exit, eCc_true, eCc_false, Kq_normal, Kq_ret, Kq_exit, Kb_normal, Kb_exit, Kb_ret, Kreg_eq, eI_nil, bindSt_some,
              bindSt_none, bindSt_ite, eR_eq, eGI_tt, eGI_ff, eGI_tf, eGI_ft, eop, vop, ev_t, ev_c, ev_f, Option.map, put_some, put_none, set_eq, setH_eq, get_eq, hp_eq, keep_cons,
              keep_nil, lk_cons, lk_nil, startSt, envOf, reduceIte, Nat.reduceEqDiff, Nat.reduceAdd, Nat.zero_add, Nat.add_zero, Nat.reduceMul, Nat.reduceLT, Nat.reduceLeDiff, bop,
              uop, intop, fltop, convop, true_or, or_true, Bool.false_eq_true, ret_ok, ret_normal, outV, rvV, rvs, ex_some, pureV, pureX, pureX.pure1', pure1, Bool.true_and,
              Bool.false_and, Bool.and_true, Bool.and_false, Option.isNone_none, AV.cells, AV.one, storable, laid, refless, refless1, List.all_cons, List.all_nil, List.length_cons,
              List.length_nil, List.getElem?_cons_zero, List.getElem?_cons_succ, List.set_cons_zero, List.set_cons_succ, List.set_nil, List.map_cons, List.map_nil, vload, loadC,
              storeC, vnil, vfaddr, vextract, callTo, List.mapM_cons, List.mapM_nil, Option.pure_def, Option.bind_eq_bind, Option.bind_some, tabOf_cons, flatT, flatE, flatC,
              and_self, and_true, true_and, implies_true, forall_const, not_true_eq_false, not_false_eq_true, false_implies, List.take_succ_cons, List.drop_succ_cons,
              List.take_zero, List.drop_zero, Bool.not_true, Bool.not_false, beq_self_eq_true, decide_true, decide_false, eq_self, Int.reduceEq, Int.reduceLE, Int.reduceLT,
              Bool.not_not, Bool.true_or, Bool.or_true, Bool.false_or, Bool.or_false, if_true, if_false, List.getElem?_nil, Kl_normal, Kl_exit, Kl_ret, bits_i64, cast_lit,
              toNat_lit, Int.reduceAdd, Int.reduceSub, Int.reduceMul, Int.reduceNeg, Int.reducePow, Nat.reducePow, Int.reduceToNat, Nat.reduceSub, Nat.mul_one, Int.toNat_zero,
              prod_eta, List.nil_append, List.cons_append, List.append_nil, vconv, vmm, vidxA, viaddrA, iaddr_sl, iaddr_lsl, getE, vfield, vlen, fillC, fillE, List.replicate,
              elemsOf, List.length_map, f2iK_eq, bits_i64, bits_i32, bits_u64, bits_u32, bits_u8, e_mov, g_mov, e_pick, g_pick, e_bin, g_bin, ↓b_pick, ePk_true, ePk_false]))
    all_goals (try simp only [*, m_laws_sameFloat, Bool.and_true, Bool.true_and, Bool.and_false, Bool.false_and, Bool.or_true, Bool.true_or, Bool.or_false, Bool.false_or, Bool.not_true, Bool.not_false, Bool.false_eq_true, if_true, if_false, reduceIte, decide_true, decide_false])
    all_goals (try (simp_all; done))
  · cases h
def m_laws_eqVector (x0 : (Nat × Nat × Nat)) (x1 : (Nat × Nat × Nat)) : Bool := (if (m_laws_sameFloat (widen x0.1) (widen x1.1)) = true then (if (m_laws_sameFloat (widen x0.2.1)
      (widen x1.2.1)) = true then (if (m_laws_sameFloat (widen x0.2.2) (widen x1.2.2)) = true then true else false) else false) else false)
def g_laws_eqVector : List AV → Option AV
  | [.agg [.flt .f32 y0, .flt .f32 y1, .flt .f32 y2], .agg [.flt .f32 y3, .flt .f32 y4, .flt .f32 y5]] => some (.bool (m_laws_eqVector (y0,
      y1, y2) (y3, y4, y5)))
  | _ => none
def ic14 : ICode := (.seq (.reg [⟨(some 2), none, (.box 3 (.t 0))⟩, ⟨(some 3), none, (.box 3 (.t 1))⟩, ⟨(some 4), none, (.mov (.c (.bool false)))⟩] [2, 3]) (.seq (.seq (.reg [⟨(some
      5), none, (.faddr 0 (.t 2))⟩, ⟨(some 6), none, (.load none (.t 5))⟩, ⟨(some 7), none, (.conv (.flt .f64) (.t 6))⟩, ⟨(some 8), none, (.faddr 0 (.t 3))⟩, ⟨(some 9), none, (.load
      none (.t 8))⟩, ⟨(some 10), none, (.conv (.flt .f64) (.t 9))⟩, ⟨(some 11), none, (.call (.fn 24) [(.t 7), (.t 10)] [])⟩, ⟨(some 12), none, (.un .not (.t 11))⟩] [2, 3, 12])
      (.cond (.t 12) (.seq (.reg [⟨(some 4), none, (.mov (.c (.bool false)))⟩] [4]) .ret) .skip)) (.seq (.seq (.reg [⟨(some 13), none, (.faddr 1 (.t 2))⟩, ⟨(some 14), none, (.load
      none (.t 13))⟩, ⟨(some 15), none, (.conv (.flt .f64) (.t 14))⟩, ⟨(some 16), none, (.faddr 1 (.t 3))⟩, ⟨(some 17), none, (.load none (.t 16))⟩, ⟨(some 18), none, (.conv (.flt
      .f64) (.t 17))⟩, ⟨(some 19), none, (.call (.fn 24) [(.t 15), (.t 18)] [])⟩, ⟨(some 20), none, (.un .not (.t 19))⟩] [2, 3, 20]) (.cond (.t 20) (.seq (.reg [⟨(some 4), none,
      (.mov (.c (.bool false)))⟩] [4]) .ret) .skip)) (.seq (.seq (.reg [⟨(some 21), none, (.faddr 2 (.t 2))⟩, ⟨(some 22), none, (.load none (.t 21))⟩, ⟨(some 23), none, (.conv (.flt
      .f64) (.t 22))⟩, ⟨(some 24), none, (.faddr 2 (.t 3))⟩, ⟨(some 25), none, (.load none (.t 24))⟩, ⟨(some 26), none, (.conv (.flt .f64) (.t 25))⟩, ⟨(some 27), none, (.call (.fn
      24) [(.t 23), (.t 26)] [])⟩, ⟨(some 28), none, (.un .not (.t 27))⟩] [28]) (.cond (.t 28) (.seq (.reg [⟨(some 4), none, (.mov (.c (.bool false)))⟩] [4]) .ret) .skip)) (.seq
      (.reg [⟨(some 4), none, (.mov (.c (.bool true)))⟩] [4]) .ret)))))
def cp14 : CP := { n := 29, kp := [[2, 3], [2, 3, 12], [4], [2, 3, 20], [4], [28], [4], [4]] }
theorem s14 : ∀ vs r, g_laws_eqVector vs = some r → Says Try.prog 14 vs r := by
  intro vs r h
  unfold g_laws_eqVector at h
  split at h
  · rename_i y0 y1 y2 y3 y4 y5
    cases h
    refine spec_of (tab := tabOf [(24, g_laws_sameFloat)]) (cp := cp14) (ic := ic14) (rvl := [(.t 4)]) hm (tabOk_cons s24 tabOk_nil) Try.func14 rfl rfl rfl (by kernel_rfl) rfl (Nat.le_of_ble_eq_true rfl) ?_
    show eA _ _ _ _
    unfold ic14
    simp only [
        eA_seq, eA_reg, eA_ret, eA_skip, eA_cond, eA_block, eA_exit, eCc_true, eCc_false, Kq_normal, Kq_ret, Kq_exit, Kb_normal, Kb_exit, Kb_ret, Kreg_eq, eI_nil, bindSt_some,
              bindSt_none, bindSt_ite, eR_eq, eGI_tt, eGI_ff, eGI_tf, eGI_ft, eop, vop, ev_t, ev_c, ev_f, Option.map, put_some, put_none, set_eq, setH_eq, get_eq, hp_eq, keep_cons,
              keep_nil, lk_cons, lk_nil, startSt, envOf, reduceIte, Nat.reduceEqDiff, Nat.reduceAdd, Nat.zero_add, Nat.add_zero, Nat.reduceMul, Nat.reduceLT, Nat.reduceLeDiff, bop,
              uop, intop, fltop, convop, true_or, or_true, Bool.false_eq_true, ret_ok, ret_normal, outV, rvV, rvs, ex_some, pureV, pureX, pureX.pure1', pure1, Bool.true_and,
              Bool.false_and, Bool.and_true, Bool.and_false, Option.isNone_none, AV.cells, AV.one, storable, laid, refless, refless1, List.all_cons, List.all_nil, List.length_cons,
              List.length_nil, List.getElem?_cons_zero, List.getElem?_cons_succ, List.set_cons_zero, List.set_cons_succ, List.set_nil, List.map_cons, List.map_nil, vload, loadC,
              storeC, vnil, vfaddr, vextract, callTo, List.mapM_cons, List.mapM_nil, Option.pure_def, Option.bind_eq_bind, Option.bind_some, tabOf_cons, flatT, flatE, flatC,
              and_self, and_true, true_and, implies_true, forall_const, not_true_eq_false, not_false_eq_true, false_implies, List.take_succ_cons, List.drop_succ_cons,
              List.take_zero, List.drop_zero, Bool.not_true, Bool.not_false, beq_self_eq_true, decide_true, decide_false, eq_self, Int.reduceEq, Int.reduceLE, Int.reduceLT,
              Bool.not_not, Bool.true_or, Bool.or_true, Bool.false_or, Bool.or_false, if_true, if_false, List.getElem?_nil, Kl_normal, Kl_exit, Kl_ret, bits_i64, cast_lit,
              toNat_lit, Int.reduceAdd, Int.reduceSub, Int.reduceMul, Int.reduceNeg, Int.reducePow, Nat.reducePow, Int.reduceToNat, Nat.reduceSub, Nat.mul_one, Int.toNat_zero,
              prod_eta, List.nil_append, List.cons_append, List.append_nil, vconv, vmm, vidxA, viaddrA, iaddr_sl, iaddr_lsl, getE, vfield, vlen, fillC, fillE, List.replicate,
              elemsOf, List.length_map, f2iK_eq, bits_i64, bits_i32, bits_u64, bits_u32, bits_u8, e_mov, g_mov, e_box, g_box, e_load, g_load, e_un, g_un, e_conv, g_conv, e_faddr,
              g_faddr, e_call, g_call, g_laws_sameFloat]
    repeat' (first
      | ((first | (refine eGI_of (fun h => ?_) (fun h => ?_)) | (refine eCc_of (fun h => ?_) (fun h => ?_))) <;> (try simp only [Bool.not_eq_true', Bool.not_eq_false'] at h) <;> simp only [h,
        eA_seq, eA_reg, eA_ret, eA_skip, eA_cond, eA_block, eA_exit, eCc_true, eCc_false, Kq_normal, Kq_ret, Kq_exit, Kb_normal, Kb_exit, Kb_ret, Kreg_eq, eI_nil, bindSt_some,
              bindSt_none, bindSt_ite, eR_eq, eGI_tt, eGI_ff, eGI_tf, eGI_ft, eop, vop, ev_t, ev_c, ev_f, Option.map, put_some, put_none, set_eq, setH_eq, get_eq, hp_eq, keep_cons,
              keep_nil, lk_cons, lk_nil, startSt, envOf, reduceIte, Nat.reduceEqDiff, Nat.reduceAdd, Nat.zero_add, Nat.add_zero, Nat.reduceMul, Nat.reduceLT, Nat.reduceLeDiff, bop,
              uop, intop, fltop, convop, true_or, or_true, Bool.false_eq_true, ret_ok, ret_normal, outV, rvV, rvs, ex_some, pureV, pureX, pureX.pure1', pure1, Bool.true_and,
              Bool.false_and, Bool.and_true, Bool.and_false, Option.isNone_none, AV.cells, AV.one, storable, laid, refless, refless1, List.all_cons, List.all_nil, List.length_cons,
              List.length_nil, List.getElem?_cons_zero, List.getElem?_cons_succ, List.set_cons_zero, List.set_cons_succ, List.set_nil, List.map_cons, List.map_nil, vload, loadC,
              storeC, vnil, vfaddr, vextract, callTo, List.mapM_cons, List.mapM_nil, Option.pure_def, Option.bind_eq_bind, Option.bind_some, tabOf_cons, flatT, flatE, flatC,
              and_self, and_true, true_and, implies_true, forall_const, not_true_eq_false, not_false_eq_true, false_implies, List.take_succ_cons, List.drop_succ_cons,
              List.take_zero, List.drop_zero, Bool.not_true, Bool.not_false, beq_self_eq_true, decide_true, decide_false, eq_self, Int.reduceEq, Int.reduceLE, Int.reduceLT,
              Bool.not_not, Bool.true_or, Bool.or_true, Bool.false_or, Bool.or_false, if_true, if_false, List.getElem?_nil, Kl_normal, Kl_exit, Kl_ret, bits_i64, cast_lit,
              toNat_lit, Int.reduceAdd, Int.reduceSub, Int.reduceMul, Int.reduceNeg, Int.reducePow, Nat.reducePow, Int.reduceToNat, Nat.reduceSub, Nat.mul_one, Int.toNat_zero,
              prod_eta, List.nil_append, List.cons_append, List.append_nil, vconv, vmm, vidxA, viaddrA, iaddr_sl, iaddr_lsl, getE, vfield, vlen, fillC, fillE, List.replicate,
              elemsOf, List.length_map, f2iK_eq, bits_i64, bits_i32, bits_u64, bits_u32, bits_u8, e_mov, g_mov, e_box, g_box, e_load, g_load, e_un, g_un, e_conv, g_conv, e_faddr,
              g_faddr, e_call, g_call, g_laws_sameFloat]))
    all_goals (try simp only [*, m_laws_eqVector, Bool.and_true, Bool.true_and, Bool.and_false, Bool.false_and, Bool.or_true, Bool.true_or, Bool.or_false, Bool.false_or, Bool.not_true, Bool.not_false, Bool.false_eq_true, if_true, if_false, reduceIte, decide_true, decide_false])
    all_goals (try (simp_all; done))
  · cases h
def m_laws_FnExactTwoBones (x0 : Nat) (x1 : Nat) (x2 : (Nat × Nat × Nat)) (x3 : (Nat × Nat × Nat)) : Bool := (if (m_laws_eqVector (m_impl_TwoBones x0 x1 (m_laws_toVector x2)
      (m_laws_toVector x3)).1 (m_spec_TwoBones x0 x1 (m_laws_toVector x2) (m_laws_toVector x3)).1) = true then (if (m_laws_eqVector (m_impl_TwoBones x0 x1 (m_laws_toVector x2)
      (m_laws_toVector x3)).2.1 (m_spec_TwoBones x0 x1 (m_laws_toVector x2) (m_laws_toVector x3)).2.1) = true then (if ((m_impl_TwoBones x0 x1 (m_laws_toVector x2) (m_laws_toVector
      x3)).2.2 == (m_spec_TwoBones x0 x1 (m_laws_toVector x2) (m_laws_toVector x3)).2.2) = true then true else false) else false) else false)
def p_laws_FnExactTwoBones (x0 : Nat) (x1 : Nat) (x2 : (Nat × Nat × Nat)) (x3 : (Nat × Nat × Nat)) : Bool := ((p_spec_TwoBones x0 x1 (m_laws_toVector x2) (m_laws_toVector x3)) &&
      (p_impl_TwoBones x0 x1 (m_laws_toVector x2) (m_laws_toVector x3)))
def g_laws_FnExactTwoBones : List AV → Option AV
  | [.flt .f32 y0, .flt .f32 y1, .agg [.flt .f32 y2, .flt .f32 y3, .flt .f32 y4], .agg [.flt .f32 y5, .flt .f32 y6, .flt .f32 y7]]
      => if p_laws_FnExactTwoBones y0 y1 (y2, y3, y4) (y5, y6, y7) = true then some (.bool (m_laws_FnExactTwoBones y0 y1 (y2, y3, y4) (y5, y6, y7))) else none
  | _ => none
def ic3 : ICode := (.seq (.reg [⟨(some 6), none, (.box 3 (.t 2))⟩, ⟨(some 7), none, (.box 3 (.t 3))⟩, ⟨(some 8), none, (.mov (.c (.bool false)))⟩] [0, 1, 6, 7]) (.seq (.reg [⟨(some
      16), none, (.mov (.t 0))⟩, ⟨(some 17), none, (.mov (.t 1))⟩, ⟨(some 18), none, (.load (some 3) (.t 6))⟩, ⟨(some 19), none, (.call (.fn 12) [(.t 18)] [])⟩, ⟨(some 20), none,
      (.load (some 3) (.t 7))⟩, ⟨(some 21), none, (.call (.fn 12) [(.t 20)] [])⟩, ⟨(some 22), none, (.call (.fn 11) [(.t 16), (.t 17), (.t 19), (.t 21)] [])⟩, ⟨(some 15), none,
      (.mov (.t 22))⟩, ⟨(some 23), none, (.extract (.t 15) 0)⟩, ⟨(some 24), none, (.extract (.t 15) 1)⟩, ⟨(some 25), none, (.extract (.t 15) 2)⟩, ⟨(some 9), none, (.alloc (.agg
      [(.flt .f32 0), (.flt .f32 0), (.flt .f32 0)]))⟩, ⟨(some 10), none, (.alloc (.agg [(.flt .f32 0), (.flt .f32 0), (.flt .f32 0)]))⟩, ⟨none, none, (.store 3 (.t 9) (.t 23))⟩,
      ⟨none, none, (.store 3 (.t 10) (.t 24))⟩, ⟨(some 11), none, (.mov (.t 25))⟩] [0, 1, 6, 7, 9, 10, 11]) (.seq (.reg [⟨(some 27), none, (.mov (.t 0))⟩, ⟨(some 28), none, (.mov
      (.t 1))⟩, ⟨(some 29), none, (.load (some 3) (.t 6))⟩, ⟨(some 30), none, (.call (.fn 12) [(.t 29)] [])⟩, ⟨(some 31), none, (.load (some 3) (.t 7))⟩, ⟨(some 32), none, (.call
      (.fn 12) [(.t 31)] [])⟩, ⟨(some 33), none, (.call (.fn 13) [(.t 27), (.t 28), (.t 30), (.t 32)] [])⟩, ⟨(some 26), none, (.mov (.t 33))⟩, ⟨(some 34), none, (.extract (.t 26)
      0)⟩, ⟨(some 35), none, (.extract (.t 26) 1)⟩, ⟨(some 36), none, (.extract (.t 26) 2)⟩, ⟨(some 12), none, (.alloc (.agg [(.flt .f32 0), (.flt .f32 0), (.flt .f32 0)]))⟩, ⟨(some
      13), none, (.alloc (.agg [(.flt .f32 0), (.flt .f32 0), (.flt .f32 0)]))⟩, ⟨none, none, (.store 3 (.t 12) (.t 34))⟩, ⟨none, none, (.store 3 (.t 13) (.t 35))⟩, ⟨(some 14),
      none, (.mov (.t 36))⟩] [9, 10, 11, 12, 13, 14]) (.seq (.seq (.reg [⟨(some 37), none, (.load (some 3) (.t 12))⟩, ⟨(some 38), none, (.load (some 3) (.t 9))⟩, ⟨(some 39), none,
      (.call (.fn 14) [(.t 37), (.t 38)] [])⟩, ⟨(some 40), none, (.un .not (.t 39))⟩, ⟨(some 41), none, (.mov (.t 40))⟩, ⟨(some 42), (some (41, false)), (.load (some 3) (.t 13))⟩,
      ⟨(some 43), (some (41, false)), (.load (some 3) (.t 10))⟩, ⟨(some 44), (some (41, false)), (.call (.fn 14) [(.t 42), (.t 43)] [])⟩, ⟨(some 45), (some (41, false)), (.un .not
      (.t 44))⟩, ⟨(some 46), none, (.pick (.t 41) (.c (.bool true)) (.t 45))⟩, ⟨(some 47), none, (.mov (.t 46))⟩, ⟨(some 48), (some (47, false)), (.mov (.t 14))⟩, ⟨(some 49), (some
      (47, false)), (.mov (.t 11))⟩, ⟨(some 50), (some (47, false)), (.bin .neq true (.t 48) (.t 49))⟩, ⟨(some 51), none, (.pick (.t 47) (.c (.bool true)) (.t 50))⟩] [51]) (.cond
      (.t 51) (.seq (.reg [⟨(some 8), none, (.mov (.c (.bool false)))⟩] [8]) .ret) .skip)) (.seq (.reg [⟨(some 8), none, (.mov (.c (.bool true)))⟩] [8]) .ret)))))
def cp3 : CP := { n := 52, kp := [[0, 1, 6, 7], [0, 1, 6, 7, 9, 10, 11], [9, 10, 11, 12, 13, 14], [51], [8], [8]] }
theorem s3 : ∀ vs r, g_laws_FnExactTwoBones vs = some r → Says Try.prog 3 vs r := by
  intro vs r h
  unfold g_laws_FnExactTwoBones at h
  split at h
  · rename_i y0 y1 y2 y3 y4 y5 y6 y7
    split at h
    · rename_i hp
      cases h
      refine spec_of (tab := tabOf [(11, g_spec_TwoBones), (12, g_laws_toVector), (13, g_impl_TwoBones), (14, g_laws_eqVector)]) (cp := cp3) (ic := ic3) (rvl := [(.t 8)]) hm (tabOk_cons s11 (tabOk_cons s12 (tabOk_cons s13 (tabOk_cons s14 tabOk_nil)))) Try.func3 rfl rfl rfl (by kernel_rfl) rfl (Nat.le_of_ble_eq_true rfl) ?_
      show eA _ _ _ _
      unfold ic3
      simp only [p_laws_FnExactTwoBones, Bool.and_eq_true, Bool.or_eq_true, decide_eq_true_eq, Bool.not_eq_true', decide_eq_false_iff_not] at hp
      simp only [
          hp, eA_seq, eA_reg, eA_ret, eA_skip, eA_cond, eA_block, eA_exit, eCc_true, eCc_false, Kq_normal, Kq_ret, Kq_exit, Kb_normal, Kb_exit, Kb_ret, Kreg_eq, eI_nil, bindSt_some,
                bindSt_none, bindSt_ite, eR_eq, eGI_tt, eGI_ff, eGI_tf, eGI_ft, eop, vop, ev_t, ev_c, ev_f, Option.map, put_some, put_none, set_eq, setH_eq, get_eq, hp_eq,
                keep_cons, keep_nil, lk_cons, lk_nil, startSt, envOf, reduceIte, Nat.reduceEqDiff, Nat.reduceAdd, Nat.zero_add, Nat.add_zero, Nat.reduceMul, Nat.reduceLT,
                Nat.reduceLeDiff, bop, uop, intop, fltop, convop, true_or, or_true, Bool.false_eq_true, ret_ok, ret_normal, outV, rvV, rvs, ex_some, pureV, pureX, pureX.pure1',
                pure1, Bool.true_and, Bool.false_and, Bool.and_true, Bool.and_false, Option.isNone_none, AV.cells, AV.one, storable, laid, refless, refless1, List.all_cons,
                List.all_nil, List.length_cons, List.length_nil, List.getElem?_cons_zero, List.getElem?_cons_succ, List.set_cons_zero, List.set_cons_succ, List.set_nil,
                List.map_cons, List.map_nil, vload, loadC, storeC, vnil, vfaddr, vextract, callTo, List.mapM_cons, List.mapM_nil, Option.pure_def, Option.bind_eq_bind,
                Option.bind_some, tabOf_cons, flatT, flatE, flatC, and_self, and_true, true_and, implies_true, forall_const, not_true_eq_false, not_false_eq_true, false_implies,
                List.take_succ_cons, List.drop_succ_cons, List.take_zero, List.drop_zero, Bool.not_true, Bool.not_false, beq_self_eq_true, decide_true, decide_false, eq_self,
                Int.reduceEq, Int.reduceLE, Int.reduceLT, Bool.not_not, Bool.true_or, Bool.or_true, Bool.false_or, Bool.or_false, if_true, if_false, List.getElem?_nil, Kl_normal,
                Kl_exit, Kl_ret, bits_i64, cast_lit, toNat_lit, Int.reduceAdd, Int.reduceSub, Int.reduceMul, Int.reduceNeg, Int.reducePow, Nat.reducePow, Int.reduceToNat,
                Nat.reduceSub, Nat.mul_one, Int.toNat_zero, prod_eta, List.nil_append, List.cons_append, List.append_nil, vconv, vmm, vidxA, viaddrA, iaddr_sl, iaddr_lsl, getE,
                vfield, vlen, fillC, fillE, List.replicate, elemsOf, List.length_map, f2iK_eq, bits_i64, bits_i32, bits_u64, bits_u32, bits_u8, e_mov, g_mov, e_pick, g_pick,
                e_alloc, g_alloc, e_box, g_box, e_load, g_load, e_store, g_store, e_bin, g_bin, e_un, g_un, e_extract, g_extract, e_call, g_call, g_spec_TwoBones, g_laws_toVector,
                g_impl_TwoBones, g_laws_eqVector, ↓b_pick, ePk_true, ePk_false]
      repeat' (first
        | ((first | (refine eGI_of (fun h => ?_) (fun h => ?_)) | (refine eCc_of (fun h => ?_) (fun h => ?_)) | (refine ePk_of (fun h => ?_) (fun h => ?_))) <;> (try simp only [Bool.not_eq_true', Bool.not_eq_false'] at h) <;> (try simp only [h, reduceCtorEq, Bool.not_eq_true', decide_eq_false_iff_not, Bool.not_true, Bool.not_false, Bool.false_or, Bool.true_or, Bool.true_and, Bool.false_and, Bool.and_eq_true, Bool.or_eq_true, if_true, if_false, reduceIte, Bool.false_eq_true, and_true, true_and, false_or, or_false, decide_eq_true_eq, not_false_eq_true, not_true_eq_false] at hp) <;> (try (have h2 := h; simp only [decide_eq_true_eq, decide_eq_false_iff_not] at h2; simp only [h2, if_true, if_false, false_or, true_or, or_true, or_false, and_true, true_and, not_false_eq_true, not_true_eq_false] at hp)) <;> simp only [h,
          hp, eA_seq, eA_reg, eA_ret, eA_skip, eA_cond, eA_block, eA_exit, eCc_true, eCc_false, Kq_normal, Kq_ret, Kq_exit, Kb_normal, Kb_exit, Kb_ret, Kreg_eq, eI_nil, bindSt_some,
                bindSt_none, bindSt_ite, eR_eq, eGI_tt, eGI_ff, eGI_tf, eGI_ft, eop, vop, ev_t, ev_c, ev_f, Option.map, put_some, put_none, set_eq, setH_eq, get_eq, hp_eq,
                keep_cons, keep_nil, lk_cons, lk_nil, startSt, envOf, reduceIte, Nat.reduceEqDiff, Nat.reduceAdd, Nat.zero_add, Nat.add_zero, Nat.reduceMul, Nat.reduceLT,
                Nat.reduceLeDiff, bop, uop, intop, fltop, convop, true_or, or_true, Bool.false_eq_true, ret_ok, ret_normal, outV, rvV, rvs, ex_some, pureV, pureX, pureX.pure1',
                pure1, Bool.true_and, Bool.false_and, Bool.and_true, Bool.and_false, Option.isNone_none, AV.cells, AV.one, storable, laid, refless, refless1, List.all_cons,
                List.all_nil, List.length_cons, List.length_nil, List.getElem?_cons_zero, List.getElem?_cons_succ, List.set_cons_zero, List.set_cons_succ, List.set_nil,
                List.map_cons, List.map_nil, vload, loadC, storeC, vnil, vfaddr, vextract, callTo, List.mapM_cons, List.mapM_nil, Option.pure_def, Option.bind_eq_bind,
                Option.bind_some, tabOf_cons, flatT, flatE, flatC, and_self, and_true, true_and, implies_true, forall_const, not_true_eq_false, not_false_eq_true, false_implies,
                List.take_succ_cons, List.drop_succ_cons, List.take_zero, List.drop_zero, Bool.not_true, Bool.not_false, beq_self_eq_true, decide_true, decide_false, eq_self,
                Int.reduceEq, Int.reduceLE, Int.reduceLT, Bool.not_not, Bool.true_or, Bool.or_true, Bool.false_or, Bool.or_false, if_true, if_false, List.getElem?_nil, Kl_normal,
                Kl_exit, Kl_ret, bits_i64, cast_lit, toNat_lit, Int.reduceAdd, Int.reduceSub, Int.reduceMul, Int.reduceNeg, Int.reducePow, Nat.reducePow, Int.reduceToNat,
                Nat.reduceSub, Nat.mul_one, Int.toNat_zero, prod_eta, List.nil_append, List.cons_append, List.append_nil, vconv, vmm, vidxA, viaddrA, iaddr_sl, iaddr_lsl, getE,
                vfield, vlen, fillC, fillE, List.replicate, elemsOf, List.length_map, f2iK_eq, bits_i64, bits_i32, bits_u64, bits_u32, bits_u8, e_mov, g_mov, e_pick, g_pick,
                e_alloc, g_alloc, e_box, g_box, e_load, g_load, e_store, g_store, e_bin, g_bin, e_un, g_un, e_extract, g_extract, e_call, g_call, g_spec_TwoBones, g_laws_toVector,
                g_impl_TwoBones, g_laws_eqVector, ↓b_pick, ePk_true, ePk_false]))
      all_goals (try simp only [*, m_laws_FnExactTwoBones, Bool.and_true, Bool.true_and, Bool.and_false, Bool.false_and, Bool.or_true, Bool.true_or, Bool.or_false, Bool.false_or, Bool.not_true, Bool.not_false, Bool.false_eq_true, if_true, if_false, reduceIte, decide_true, decide_false])
      all_goals (try (simp_all; done))
    · cases h
  · cases h
end Go.Proofs
namespace Go.Proofs
open Go.Ab
theorem sameFloat_refl (x : Nat) : m_laws_sameFloat x x = true := by
  unfold m_laws_sameFloat
  by_cases h : feq .f64 x x = true
  · simp [h]
  · simp [h]
theorem eqVector_refl (x : Nat × Nat × Nat) : m_laws_eqVector x x = true := by
  unfold m_laws_eqVector
  simp [sameFloat_refl]
end Go.Proofs
namespace Go.Proofs
open Go.Ab
theorem pLong (v : Nat × Nat × Nat) : p_spec_l01Long v = true := sqrt_narrow _
theorem pLongOf (v : Nat × Nat × Nat) : p_impl_LongOf v = true := sqrt_narrow _
theorem long_eq (v : Nat × Nat × Nat) : m_spec_l01Long v = m_impl_LongOf v := rfl
theorem less_eq (v w : Nat × Nat × Nat) : m_spec_l01Less v w = m_impl_LessVectors v w := rfl
theorem add_eq (v w : Nat × Nat × Nat) : m_spec_l01Add v w = m_impl_AddVectors v w := rfl
theorem scale_eq (v : Nat × Nat × Nat) (x : Nat) : m_spec_l01Scale v x = m_impl_ScaleVector v x := rfl
theorem isLength_eq (n : Nat) : m_impl_isLength n = (!(feq .f32 n 0) && m_spec_l01Finite n) := by
  unfold m_impl_isLength
  show (if m_spec_l01Finite n = true then _ else _) = _
  cases m_spec_l01Finite n <;> simp
end Go.Proofs
namespace Go.Proofs
open Go.Ab
theorem pSqrt (x : Nat) : p_spec_l01Sqrt x = true := sqrt_narrow _
theorem pRoot (x : Nat) : p_impl_RootNumber x = true := sqrt_narrow _
theorem len_eq (v : Nat × Nat × Nat) : m_spec_l04Length (m_spec_l01Long v) = m_impl_isLength (m_impl_LongOf v) := by
  unfold m_spec_l04Length m_impl_isLength
  rw [long_eq]
  show (if m_impl_IsFinite (m_impl_LongOf v) = true then _ else _) = _
  by_cases h : m_impl_IsFinite (m_impl_LongOf v) = true
  · rw [if_pos h, if_pos h]
    exact root_pos (x := widen (m_impl_InnerOf v v)) h
  · rw [if_neg h, if_neg h]
theorem two_eq (a b : Nat) (v w : Nat × Nat × Nat) : m_spec_TwoBones a b v w = m_impl_TwoBones a b v w := by
  unfold m_spec_TwoBones m_impl_TwoBones
  simp only [len_eq]
  rfl
theorem law_TwoBones (x : Nat) (_ : Canon .f32 x) (y : Nat) (_ : Canon .f32 y) (a b c : Nat) (_ : Canon .f32 a) (_ : Canon .f32 b) (_ : Canon .f32 c) (d e f : Nat) (_ : Canon .f32 d) (_ : Canon .f32 e) (_ : Canon .f32 f) :
    g_laws_FnExactTwoBones [.flt .f32 x, .flt .f32 y, .agg [.flt .f32 a, .flt .f32 b, .flt .f32 c], .agg [.flt .f32 d, .flt .f32 e, .flt .f32 f]] = some (.bool true) := by
  have h1 : p_laws_FnExactTwoBones x y (a, b, c) (d, e, f) = true := by
    unfold p_laws_FnExactTwoBones p_spec_TwoBones p_impl_TwoBones
    simp only [pLong, pLongOf, pSqrt, pRoot, Bool.and_self, Bool.or_true, Bool.true_and, if_true, ite_self]
  have h2 : m_laws_FnExactTwoBones x y (a, b, c) (d, e, f) = true := by
    unfold m_laws_FnExactTwoBones
    rw [two_eq, eqVector_refl, eqVector_refl]; simp
  unfold g_laws_FnExactTwoBones
  simp [h1, h2]
end Go.Proofs
