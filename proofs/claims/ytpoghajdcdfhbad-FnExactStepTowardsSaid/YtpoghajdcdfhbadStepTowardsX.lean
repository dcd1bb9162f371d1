/- What the functions that FnExactStepTowards reaches compute, and that the program's and the reference's answers are the same. No conditions. -/
import Derived.Test.YtpoghajdcdfhbadFwE
import Derived.Test.YtpoghajdcdfhbadProg
import Derived.KernelRfl
set_option maxRecDepth 100000
set_option linter.all false
namespace Go.Proofs
open Go.Ab
theorem hm : Try.prog.follows .mixedOrders = true := by kernel_rfl
def m_laws_toVector (x0 : (Nat × Nat × Nat)) : (Nat × Nat × Nat) := (x0.1, x0.2.1, x0.2.2)
def g_laws_toVector : List AV → Option AV
  | [.agg [.flt .f32 y0, .flt .f32 y1, .flt .f32 y2]] => some (AV.agg [(.flt .f32 (m_laws_toVector (y0, y1, y2)).1), (.flt .f32
      (m_laws_toVector (y0, y1, y2)).2.1), (.flt .f32 (m_laws_toVector (y0, y1, y2)).2.2)])
  | _ => none
def ic38 : ICode := (.seq (.reg [⟨(some 1), none, (.box 3 (.t 0))⟩, ⟨(some 2), none, (.alloc (.agg [(.flt .f32 0), (.flt .f32 0), (.flt .f32 0)]))⟩] [1, 2]) (.seq (.reg [⟨(some 3),
      none, (.alloc (.agg [(.flt .f32 0), (.flt .f32 0), (.flt .f32 0)]))⟩] [1, 2, 3]) (.seq (.reg [⟨(some 4), none, (.faddr 0 (.t 1))⟩, ⟨(some 5), none, (.load none (.t 4))⟩,
      ⟨(some 6), none, (.faddr 0 (.t 3))⟩, ⟨none, none, (.store 1 (.t 6) (.t 5))⟩] [1, 2, 3]) (.seq (.reg [⟨(some 7), none, (.faddr 1 (.t 1))⟩, ⟨(some 8), none, (.load none (.t
      7))⟩, ⟨(some 9), none, (.faddr 1 (.t 3))⟩, ⟨none, none, (.store 1 (.t 9) (.t 8))⟩] [1, 2, 3]) (.seq (.reg [⟨(some 10), none, (.faddr 2 (.t 1))⟩, ⟨(some 11), none, (.load none
      (.t 10))⟩, ⟨(some 12), none, (.faddr 2 (.t 3))⟩, ⟨none, none, (.store 1 (.t 12) (.t 11))⟩] [2, 3]) (.seq (.reg [⟨(some 13), none, (.load (some 3) (.t 3))⟩, ⟨none, none,
      (.store 3 (.t 2) (.t 13))⟩] [2]) .ret))))))
def cp38 : CP := { n := 14, kp := [[1, 2], [1, 2, 3], [1, 2, 3], [1, 2, 3], [2, 3], [2]] }
theorem s38 : ∀ vs r, g_laws_toVector vs = some r → Says Try.prog 38 vs r := by
  intro vs r h
  unfold g_laws_toVector at h
  split at h
  · rename_i y0 y1 y2
    cases h
    refine spec_of (tab := tabOf []) (cp := cp38) (ic := ic38) (rvl := [(.c 2 (some 3))]) hm tabOk_nil Try.func38 rfl rfl rfl (by kernel_rfl) rfl (Nat.le_of_ble_eq_true rfl) ?_
    show eA _ _ _ _
    unfold ic38
    simp only [
        eA_seq, eA_reg, eA_ret, eA_skip, eA_cond, eA_block, eA_exit, eCc_true, eCc_false, Kq_normal, Kq_ret, Kq_exit, Kb_normal, Kb_exit, Kb_ret, Kreg_eq, eI_nil, bindSt_some,
              bindSt_none, bindSt_ite, eR_eq, eGI_tt, eGI_ff, eGI_tf, eGI_ft, eop, vop, ev_t, ev_c, ev_f, Option.map, put_some, put_none, set_eq, setH_eq, get_eq, hp_eq, keep_cons,
              keep_nil, lk_cons, lk_nil, startSt, envOf, reduceIte, Nat.reduceEqDiff, Nat.reduceAdd, Nat.zero_add, Nat.add_zero, Nat.reduceMul, Nat.reduceLT, Nat.reduceLeDiff, bop,
              uop, intop, fltop, convop, true_or, or_true, Bool.false_eq_true, ret_ok, ret_normal, outV, rvV, rvs, ex_some, pureV, pureX, pureX.pure1', pure1, Bool.true_and,
              Bool.false_and, Bool.and_true, Bool.and_false, Option.isNone_none, AV.cells, AV.one, storable, laid, refless, refless1, List.all_cons, List.all_nil, List.length_cons,
              List.length_nil, List.getElem?_cons_zero, List.getElem?_cons_succ, List.set_cons_zero, List.set_cons_succ, List.set_nil, List.map_cons, List.map_nil, vload, loadC,
              storeC, vnil, vfaddr, vextract, callTo, List.mapM_cons, List.mapM_nil, Option.pure_def, Option.bind_eq_bind, Option.bind_some, tabOf_cons, flatT, flatE, flatC,
              and_self, and_true, true_and, implies_true, forall_const, not_true_eq_false, not_false_eq_true, false_implies, List.take_succ_cons, List.drop_succ_cons,
              List.take_zero, List.drop_zero, Bool.not_true, Bool.not_false, beq_self_eq_true, decide_true, decide_false, eq_self, Int.reduceEq, Int.reduceLE, Int.reduceLT,
              Bool.not_not, Bool.true_or, Bool.or_true, Bool.false_or, Bool.or_false, if_true, if_false, List.getElem?_nil, Kl_normal, Kl_exit, Kl_ret, bits_i64, cast_lit,
              toNat_lit, Int.reduceAdd, Int.reduceSub, Int.reduceMul, Int.reduceNeg, Int.reducePow, Nat.reducePow, Int.reduceToNat, Nat.reduceSub, Nat.mul_one, Int.toNat_zero,
              prod_eta, List.nil_append, List.cons_append, List.append_nil, vconv, vmm, vidxA, viaddrA, iaddr_sl, iaddr_lsl, getE, vfield, vlen, fillC, fillE, List.replicate,
              elemsOf, List.length_map, f2iK_eq, bits_i64, bits_i32, bits_u64, bits_u32, bits_u8, e_alloc, g_alloc, e_box, g_box, e_load, g_load, e_store, g_store, e_faddr, g_faddr]
    repeat' (first
      | ((first | (refine eGI_of (fun h => ?_) (fun h => ?_)) | (refine eCc_of (fun h => ?_) (fun h => ?_))) <;> (try simp only [Bool.not_eq_true', Bool.not_eq_false'] at h) <;> simp only [h,
        eA_seq, eA_reg, eA_ret, eA_skip, eA_cond, eA_block, eA_exit, eCc_true, eCc_false, Kq_normal, Kq_ret, Kq_exit, Kb_normal, Kb_exit, Kb_ret, Kreg_eq, eI_nil, bindSt_some,
              bindSt_none, bindSt_ite, eR_eq, eGI_tt, eGI_ff, eGI_tf, eGI_ft, eop, vop, ev_t, ev_c, ev_f, Option.map, put_some, put_none, set_eq, setH_eq, get_eq, hp_eq, keep_cons,
              keep_nil, lk_cons, lk_nil, startSt, envOf, reduceIte, Nat.reduceEqDiff, Nat.reduceAdd, Nat.zero_add, Nat.add_zero, Nat.reduceMul, Nat.reduceLT, Nat.reduceLeDiff, bop,
              uop, intop, fltop, convop, true_or, or_true, Bool.false_eq_true, ret_ok, ret_normal, outV, rvV, rvs, ex_some, pureV, pureX, pureX.pure1', pure1, Bool.true_and,
              Bool.false_and, Bool.and_true, Bool.and_false, Option.isNone_none, AV.cells, AV.one, storable, laid, refless, refless1, List.all_cons, List.all_nil, List.length_cons,
              List.length_nil, List.getElem?_cons_zero, List.getElem?_cons_succ, List.set_cons_zero, List.set_cons_succ, List.set_nil, List.map_cons, List.map_nil, vload, loadC,
              storeC, vnil, vfaddr, vextract, callTo, List.mapM_cons, List.mapM_nil, Option.pure_def, Option.bind_eq_bind, Option.bind_some, tabOf_cons, flatT, flatE, flatC,
              and_self, and_true, true_and, implies_true, forall_const, not_true_eq_false, not_false_eq_true, false_implies, List.take_succ_cons, List.drop_succ_cons,
              List.take_zero, List.drop_zero, Bool.not_true, Bool.not_false, beq_self_eq_true, decide_true, decide_false, eq_self, Int.reduceEq, Int.reduceLE, Int.reduceLT,
              Bool.not_not, Bool.true_or, Bool.or_true, Bool.false_or, Bool.or_false, if_true, if_false, List.getElem?_nil, Kl_normal, Kl_exit, Kl_ret, bits_i64, cast_lit,
              toNat_lit, Int.reduceAdd, Int.reduceSub, Int.reduceMul, Int.reduceNeg, Int.reducePow, Nat.reducePow, Int.reduceToNat, Nat.reduceSub, Nat.mul_one, Int.toNat_zero,
              prod_eta, List.nil_append, List.cons_append, List.append_nil, vconv, vmm, vidxA, viaddrA, iaddr_sl, iaddr_lsl, getE, vfield, vlen, fillC, fillE, List.replicate,
              elemsOf, List.length_map, f2iK_eq, bits_i64, bits_i32, bits_u64, bits_u32, bits_u8, e_alloc, g_alloc, e_box, g_box, e_load, g_load, e_store, g_store, e_faddr, g_faddr]))
    all_goals (try simp only [*, m_laws_toVector, Bool.and_true, Bool.true_and, Bool.and_false, Bool.false_and, Bool.or_true, Bool.true_or, Bool.or_false, Bool.false_or, Bool.not_true, Bool.not_false, Bool.false_eq_true, if_true, if_false, reduceIte, decide_true, decide_false])
    all_goals (try (simp_all; done))
  · cases h
def m_spec_l01Less (x0 : (Nat × Nat × Nat)) (x1 : (Nat × Nat × Nat)) : (Nat × Nat × Nat) := ((fsub .f32 x0.1 x1.1), (fsub .f32 x0.2.1 x1.2.1), (fsub .f32 x0.2.2 x1.2.2))
def g_spec_l01Less : List AV → Option AV
  | [.agg [.flt .f32 y0, .flt .f32 y1, .flt .f32 y2], .agg [.flt .f32 y3, .flt .f32 y4, .flt .f32 y5]] => some (AV.agg [(.flt .f32
      (m_spec_l01Less (y0, y1, y2) (y3, y4, y5)).1), (.flt .f32 (m_spec_l01Less (y0, y1, y2) (y3, y4, y5)).2.1), (.flt .f32 (m_spec_l01Less (y0, y1, y2) (y3, y4, y5)).2.2)])
  | _ => none
def ic70 : ICode := (.seq (.reg [⟨(some 2), none, (.box 3 (.t 0))⟩, ⟨(some 3), none, (.box 3 (.t 1))⟩, ⟨(some 4), none, (.alloc (.agg [(.flt .f32 0), (.flt .f32 0), (.flt .f32
      0)]))⟩] [2, 3, 4]) (.seq (.reg [⟨(some 5), none, (.faddr 0 (.t 2))⟩, ⟨(some 6), none, (.load none (.t 5))⟩, ⟨(some 7), none, (.faddr 0 (.t 3))⟩, ⟨(some 8), none, (.load none
      (.t 7))⟩, ⟨(some 9), none, (.bin .sub false (.t 6) (.t 8))⟩, ⟨(some 10), none, (.faddr 1 (.t 2))⟩, ⟨(some 11), none, (.load none (.t 10))⟩, ⟨(some 12), none, (.faddr 1 (.t
      3))⟩, ⟨(some 13), none, (.load none (.t 12))⟩, ⟨(some 14), none, (.bin .sub false (.t 11) (.t 13))⟩, ⟨(some 15), none, (.faddr 2 (.t 2))⟩, ⟨(some 16), none, (.load none (.t
      15))⟩, ⟨(some 17), none, (.faddr 2 (.t 3))⟩, ⟨(some 18), none, (.load none (.t 17))⟩, ⟨(some 19), none, (.bin .sub false (.t 16) (.t 18))⟩, ⟨(some 20), none, (.build [(.flt
      .f32 0), (.flt .f32 0), (.flt .f32 0)] [(0, 1, (.t 9)), (1, 1, (.t 14)), (2, 1, (.t 19))])⟩, ⟨none, none, (.store 3 (.t 4) (.t 20))⟩] [4]) .ret))
def cp70 : CP := { n := 21, kp := [[2, 3, 4], [4]] }
theorem s70 : ∀ vs r, g_spec_l01Less vs = some r → Says Try.prog 70 vs r := by
  intro vs r h
  unfold g_spec_l01Less at h
  split at h
  · rename_i y0 y1 y2 y3 y4 y5
    cases h
    refine spec_of (tab := tabOf []) (cp := cp70) (ic := ic70) (rvl := [(.c 4 (some 3))]) hm tabOk_nil Try.func70 rfl rfl rfl (by kernel_rfl) rfl (Nat.le_of_ble_eq_true rfl) ?_
    show eA _ _ _ _
    unfold ic70
    simp only [
        eA_seq, eA_reg, eA_ret, eA_skip, eA_cond, eA_block, eA_exit, eCc_true, eCc_false, Kq_normal, Kq_ret, Kq_exit, Kb_normal, Kb_exit, Kb_ret, Kreg_eq, eI_nil, bindSt_some,
              bindSt_none, bindSt_ite, eR_eq, eGI_tt, eGI_ff, eGI_tf, eGI_ft, eop, vop, ev_t, ev_c, ev_f, Option.map, put_some, put_none, set_eq, setH_eq, get_eq, hp_eq, keep_cons,
              keep_nil, lk_cons, lk_nil, startSt, envOf, reduceIte, Nat.reduceEqDiff, Nat.reduceAdd, Nat.zero_add, Nat.add_zero, Nat.reduceMul, Nat.reduceLT, Nat.reduceLeDiff, bop,
              uop, intop, fltop, convop, true_or, or_true, Bool.false_eq_true, ret_ok, ret_normal, outV, rvV, rvs, ex_some, pureV, pureX, pureX.pure1', pure1, Bool.true_and,
              Bool.false_and, Bool.and_true, Bool.and_false, Option.isNone_none, AV.cells, AV.one, storable, laid, refless, refless1, List.all_cons, List.all_nil, List.length_cons,
              List.length_nil, List.getElem?_cons_zero, List.getElem?_cons_succ, List.set_cons_zero, List.set_cons_succ, List.set_nil, List.map_cons, List.map_nil, vload, loadC,
              storeC, vnil, vfaddr, vextract, callTo, List.mapM_cons, List.mapM_nil, Option.pure_def, Option.bind_eq_bind, Option.bind_some, tabOf_cons, flatT, flatE, flatC,
              and_self, and_true, true_and, implies_true, forall_const, not_true_eq_false, not_false_eq_true, false_implies, List.take_succ_cons, List.drop_succ_cons,
              List.take_zero, List.drop_zero, Bool.not_true, Bool.not_false, beq_self_eq_true, decide_true, decide_false, eq_self, Int.reduceEq, Int.reduceLE, Int.reduceLT,
              Bool.not_not, Bool.true_or, Bool.or_true, Bool.false_or, Bool.or_false, if_true, if_false, List.getElem?_nil, Kl_normal, Kl_exit, Kl_ret, bits_i64, cast_lit,
              toNat_lit, Int.reduceAdd, Int.reduceSub, Int.reduceMul, Int.reduceNeg, Int.reducePow, Nat.reducePow, Int.reduceToNat, Nat.reduceSub, Nat.mul_one, Int.toNat_zero,
              prod_eta, List.nil_append, List.cons_append, List.append_nil, vconv, vmm, vidxA, viaddrA, iaddr_sl, iaddr_lsl, getE, vfield, vlen, fillC, fillE, List.replicate,
              elemsOf, List.length_map, f2iK_eq, bits_i64, bits_i32, bits_u64, bits_u32, bits_u8, e_alloc, g_alloc, e_box, g_box, e_build, g_build, e_load, g_load, e_store, g_store,
              e_bin, g_bin, e_faddr, g_faddr]
    repeat' (first
      | ((first | (refine eGI_of (fun h => ?_) (fun h => ?_)) | (refine eCc_of (fun h => ?_) (fun h => ?_))) <;> (try simp only [Bool.not_eq_true', Bool.not_eq_false'] at h) <;> simp only [h,
        eA_seq, eA_reg, eA_ret, eA_skip, eA_cond, eA_block, eA_exit, eCc_true, eCc_false, Kq_normal, Kq_ret, Kq_exit, Kb_normal, Kb_exit, Kb_ret, Kreg_eq, eI_nil, bindSt_some,
              bindSt_none, bindSt_ite, eR_eq, eGI_tt, eGI_ff, eGI_tf, eGI_ft, eop, vop, ev_t, ev_c, ev_f, Option.map, put_some, put_none, set_eq, setH_eq, get_eq, hp_eq, keep_cons,
              keep_nil, lk_cons, lk_nil, startSt, envOf, reduceIte, Nat.reduceEqDiff, Nat.reduceAdd, Nat.zero_add, Nat.add_zero, Nat.reduceMul, Nat.reduceLT, Nat.reduceLeDiff, bop,
              uop, intop, fltop, convop, true_or, or_true, Bool.false_eq_true, ret_ok, ret_normal, outV, rvV, rvs, ex_some, pureV, pureX, pureX.pure1', pure1, Bool.true_and,
              Bool.false_and, Bool.and_true, Bool.and_false, Option.isNone_none, AV.cells, AV.one, storable, laid, refless, refless1, List.all_cons, List.all_nil, List.length_cons,
              List.length_nil, List.getElem?_cons_zero, List.getElem?_cons_succ, List.set_cons_zero, List.set_cons_succ, List.set_nil, List.map_cons, List.map_nil, vload, loadC,
              storeC, vnil, vfaddr, vextract, callTo, List.mapM_cons, List.mapM_nil, Option.pure_def, Option.bind_eq_bind, Option.bind_some, tabOf_cons, flatT, flatE, flatC,
              and_self, and_true, true_and, implies_true, forall_const, not_true_eq_false, not_false_eq_true, false_implies, List.take_succ_cons, List.drop_succ_cons,
              List.take_zero, List.drop_zero, Bool.not_true, Bool.not_false, beq_self_eq_true, decide_true, decide_false, eq_self, Int.reduceEq, Int.reduceLE, Int.reduceLT,
              Bool.not_not, Bool.true_or, Bool.or_true, Bool.false_or, Bool.or_false, if_true, if_false, List.getElem?_nil, Kl_normal, Kl_exit, Kl_ret, bits_i64, cast_lit,
              toNat_lit, Int.reduceAdd, Int.reduceSub, Int.reduceMul, Int.reduceNeg, Int.reducePow, Nat.reducePow, Int.reduceToNat, Nat.reduceSub, Nat.mul_one, Int.toNat_zero,
              prod_eta, List.nil_append, List.cons_append, List.append_nil, vconv, vmm, vidxA, viaddrA, iaddr_sl, iaddr_lsl, getE, vfield, vlen, fillC, fillE, List.replicate,
              elemsOf, List.length_map, f2iK_eq, bits_i64, bits_i32, bits_u64, bits_u32, bits_u8, e_alloc, g_alloc, e_box, g_box, e_build, g_build, e_load, g_load, e_store, g_store,
              e_bin, g_bin, e_faddr, g_faddr]))
    all_goals (try simp only [*, m_spec_l01Less, Bool.and_true, Bool.true_and, Bool.and_false, Bool.false_and, Bool.or_true, Bool.true_or, Bool.or_false, Bool.false_or, Bool.not_true, Bool.not_false, Bool.false_eq_true, if_true, if_false, reduceIte, decide_true, decide_false])
    all_goals (try (simp_all; done))
  · cases h
def m_spec_l01Inner (x0 : (Nat × Nat × Nat)) (x1 : (Nat × Nat × Nat)) : Nat := (fadd .f32 (fadd .f32 (fmul .f32 x0.1 x1.1) (fmul .f32 x0.2.1 x1.2.1)) (fmul .f32 x0.2.2 x1.2.2))
def g_spec_l01Inner : List AV → Option AV
  | [.agg [.flt .f32 y0, .flt .f32 y1, .flt .f32 y2], .agg [.flt .f32 y3, .flt .f32 y4, .flt .f32 y5]] => some (.flt .f32 (m_spec_l01Inner
      (y0, y1, y2) (y3, y4, y5)))
  | _ => none
def ic96 : ICode := (.seq (.reg [⟨(some 2), none, (.box 3 (.t 0))⟩, ⟨(some 3), none, (.box 3 (.t 1))⟩, ⟨(some 4), none, (.mov (.c (.flt .f32 0)))⟩] [2, 3]) (.seq (.reg [⟨(some 5),
      none, (.faddr 0 (.t 2))⟩, ⟨(some 6), none, (.load none (.t 5))⟩, ⟨(some 7), none, (.faddr 0 (.t 3))⟩, ⟨(some 8), none, (.load none (.t 7))⟩, ⟨(some 9), none, (.bin .mul false
      (.t 6) (.t 8))⟩, ⟨(some 10), none, (.faddr 1 (.t 2))⟩, ⟨(some 11), none, (.load none (.t 10))⟩, ⟨(some 12), none, (.faddr 1 (.t 3))⟩, ⟨(some 13), none, (.load none (.t 12))⟩,
      ⟨(some 14), none, (.bin .mul false (.t 11) (.t 13))⟩, ⟨(some 15), none, (.bin .add false (.t 9) (.t 14))⟩, ⟨(some 16), none, (.faddr 2 (.t 2))⟩, ⟨(some 17), none, (.load none
      (.t 16))⟩, ⟨(some 18), none, (.faddr 2 (.t 3))⟩, ⟨(some 19), none, (.load none (.t 18))⟩, ⟨(some 20), none, (.bin .mul false (.t 17) (.t 19))⟩, ⟨(some 21), none, (.bin .add
      false (.t 15) (.t 20))⟩, ⟨(some 4), none, (.mov (.t 21))⟩] [4]) .ret))
def cp96 : CP := { n := 22, kp := [[2, 3], [4]] }
theorem s96 : ∀ vs r, g_spec_l01Inner vs = some r → Says Try.prog 96 vs r := by
  intro vs r h
  unfold g_spec_l01Inner at h
  split at h
  · rename_i y0 y1 y2 y3 y4 y5
    cases h
    refine spec_of (tab := tabOf []) (cp := cp96) (ic := ic96) (rvl := [(.t 4)]) hm tabOk_nil Try.func96 rfl rfl rfl (by kernel_rfl) rfl (Nat.le_of_ble_eq_true rfl) ?_
    show eA _ _ _ _
    unfold ic96
    simp only [
        eA_seq, eA_reg, eA_ret, eA_skip, eA_cond, eA_block, eA_exit, eCc_true, eCc_false, Kq_normal, Kq_ret, Kq_exit, Kb_normal, Kb_exit, Kb_ret, Kreg_eq, eI_nil, bindSt_some,
              bindSt_none, bindSt_ite, eR_eq, eGI_tt, eGI_ff, eGI_tf, eGI_ft, eop, vop, ev_t, ev_c, ev_f, Option.map, put_some, put_none, set_eq, setH_eq, get_eq, hp_eq, keep_cons,
              keep_nil, lk_cons, lk_nil, startSt, envOf, reduceIte, Nat.reduceEqDiff, Nat.reduceAdd, Nat.zero_add, Nat.add_zero, Nat.reduceMul, Nat.reduceLT, Nat.reduceLeDiff, bop,
              uop, intop, fltop, convop, true_or, or_true, Bool.false_eq_true, ret_ok, ret_normal, outV, rvV, rvs, ex_some, pureV, pureX, pureX.pure1', pure1, Bool.true_and,
              Bool.false_and, Bool.and_true, Bool.and_false, Option.isNone_none, AV.cells, AV.one, storable, laid, refless, refless1, List.all_cons, List.all_nil, List.length_cons,
              List.length_nil, List.getElem?_cons_zero, List.getElem?_cons_succ, List.set_cons_zero, List.set_cons_succ, List.set_nil, List.map_cons, List.map_nil, vload, loadC,
              storeC, vnil, vfaddr, vextract, callTo, List.mapM_cons, List.mapM_nil, Option.pure_def, Option.bind_eq_bind, Option.bind_some, tabOf_cons, flatT, flatE, flatC,
              and_self, and_true, true_and, implies_true, forall_const, not_true_eq_false, not_false_eq_true, false_implies, List.take_succ_cons, List.drop_succ_cons,
              List.take_zero, List.drop_zero, Bool.not_true, Bool.not_false, beq_self_eq_true, decide_true, decide_false, eq_self, Int.reduceEq, Int.reduceLE, Int.reduceLT,
              Bool.not_not, Bool.true_or, Bool.or_true, Bool.false_or, Bool.or_false, if_true, if_false, List.getElem?_nil, Kl_normal, Kl_exit, Kl_ret, bits_i64, cast_lit,
              toNat_lit, Int.reduceAdd, Int.reduceSub, Int.reduceMul, Int.reduceNeg, Int.reducePow, Nat.reducePow, Int.reduceToNat, Nat.reduceSub, Nat.mul_one, Int.toNat_zero,
              prod_eta, List.nil_append, List.cons_append, List.append_nil, vconv, vmm, vidxA, viaddrA, iaddr_sl, iaddr_lsl, getE, vfield, vlen, fillC, fillE, List.replicate,
              elemsOf, List.length_map, f2iK_eq, bits_i64, bits_i32, bits_u64, bits_u32, bits_u8, e_mov, g_mov, e_box, g_box, e_load, g_load, e_bin, g_bin, e_faddr, g_faddr]
    repeat' (first
      | ((first | (refine eGI_of (fun h => ?_) (fun h => ?_)) | (refine eCc_of (fun h => ?_) (fun h => ?_))) <;> (try simp only [Bool.not_eq_true', Bool.not_eq_false'] at h) <;> simp only [h,
        eA_seq, eA_reg, eA_ret, eA_skip, eA_cond, eA_block, eA_exit, eCc_true, eCc_false, Kq_normal, Kq_ret, Kq_exit, Kb_normal, Kb_exit, Kb_ret, Kreg_eq, eI_nil, bindSt_some,
              bindSt_none, bindSt_ite, eR_eq, eGI_tt, eGI_ff, eGI_tf, eGI_ft, eop, vop, ev_t, ev_c, ev_f, Option.map, put_some, put_none, set_eq, setH_eq, get_eq, hp_eq, keep_cons,
              keep_nil, lk_cons, lk_nil, startSt, envOf, reduceIte, Nat.reduceEqDiff, Nat.reduceAdd, Nat.zero_add, Nat.add_zero, Nat.reduceMul, Nat.reduceLT, Nat.reduceLeDiff, bop,
              uop, intop, fltop, convop, true_or, or_true, Bool.false_eq_true, ret_ok, ret_normal, outV, rvV, rvs, ex_some, pureV, pureX, pureX.pure1', pure1, Bool.true_and,
              Bool.false_and, Bool.and_true, Bool.and_false, Option.isNone_none, AV.cells, AV.one, storable, laid, refless, refless1, List.all_cons, List.all_nil, List.length_cons,
              List.length_nil, List.getElem?_cons_zero, List.getElem?_cons_succ, List.set_cons_zero, List.set_cons_succ, List.set_nil, List.map_cons, List.map_nil, vload, loadC,
              storeC, vnil, vfaddr, vextract, callTo, List.mapM_cons, List.mapM_nil, Option.pure_def, Option.bind_eq_bind, Option.bind_some, tabOf_cons, flatT, flatE, flatC,
              and_self, and_true, true_and, implies_true, forall_const, not_true_eq_false, not_false_eq_true, false_implies, List.take_succ_cons, List.drop_succ_cons,
              List.take_zero, List.drop_zero, Bool.not_true, Bool.not_false, beq_self_eq_true, decide_true, decide_false, eq_self, Int.reduceEq, Int.reduceLE, Int.reduceLT,
              Bool.not_not, Bool.true_or, Bool.or_true, Bool.false_or, Bool.or_false, if_true, if_false, List.getElem?_nil, Kl_normal, Kl_exit, Kl_ret, bits_i64, cast_lit,
              toNat_lit, Int.reduceAdd, Int.reduceSub, Int.reduceMul, Int.reduceNeg, Int.reducePow, Nat.reducePow, Int.reduceToNat, Nat.reduceSub, Nat.mul_one, Int.toNat_zero,
              prod_eta, List.nil_append, List.cons_append, List.append_nil, vconv, vmm, vidxA, viaddrA, iaddr_sl, iaddr_lsl, getE, vfield, vlen, fillC, fillE, List.replicate,
              elemsOf, List.length_map, f2iK_eq, bits_i64, bits_i32, bits_u64, bits_u32, bits_u8, e_mov, g_mov, e_box, g_box, e_load, g_load, e_bin, g_bin, e_faddr, g_faddr]))
    all_goals (try simp only [*, m_spec_l01Inner, Bool.and_true, Bool.true_and, Bool.and_false, Bool.false_and, Bool.or_true, Bool.true_or, Bool.or_false, Bool.false_or, Bool.not_true, Bool.not_false, Bool.false_eq_true, if_true, if_false, reduceIte, decide_true, decide_false])
    all_goals (try (simp_all; done))
  · cases h
theorem s106 : ∀ vs r, g_sqrt vs = some r → Says Try.prog 106 vs r := t_sqrt Try.func106 (by kernel_rfl) rfl (by kernel_rfl) (by kernel_rfl)
def m_math_Sqrt (x0 : Nat) : Nat := (fsqrt x0)
def g_math_Sqrt : List AV → Option AV
  | [.flt .f64 y0] => some (.flt .f64 (m_math_Sqrt y0))
  | _ => none
def ic104 : ICode := (.seq (.reg [⟨(some 2), none, (.mov (.c (.flt .f64 0)))⟩] [0]) (.seq (.reg [⟨(some 3), none, (.mov (.t 0))⟩, ⟨(some 4), none, (.call (.fn 106) [(.t 3)] [])⟩,
      ⟨(some 2), none, (.mov (.t 4))⟩] [2]) .ret))
def cp104 : CP := { n := 5, kp := [[0], [2]] }
theorem s104 : ∀ vs r, g_math_Sqrt vs = some r → Says Try.prog 104 vs r := by
  intro vs r h
  unfold g_math_Sqrt at h
  split at h
  · rename_i y0
    cases h
    refine spec_of (tab := tabOf [(106, g_sqrt)]) (cp := cp104) (ic := ic104) (rvl := [(.t 2)]) hm (tabOk_cons s106 tabOk_nil) Try.func104 rfl rfl rfl (by kernel_rfl) rfl (Nat.le_of_ble_eq_true rfl) ?_
    show eA _ _ _ _
    unfold ic104
    simp only [
        eA_seq, eA_reg, eA_ret, eA_skip, eA_cond, eA_block, eA_exit, eCc_true, eCc_false, Kq_normal, Kq_ret, Kq_exit, Kb_normal, Kb_exit, Kb_ret, Kreg_eq, eI_nil, bindSt_some,
              bindSt_none, bindSt_ite, eR_eq, eGI_tt, eGI_ff, eGI_tf, eGI_ft, eop, vop, ev_t, ev_c, ev_f, Option.map, put_some, put_none, set_eq, setH_eq, get_eq, hp_eq, keep_cons,
              keep_nil, lk_cons, lk_nil, startSt, envOf, reduceIte, Nat.reduceEqDiff, Nat.reduceAdd, Nat.zero_add, Nat.add_zero, Nat.reduceMul, Nat.reduceLT, Nat.reduceLeDiff, bop,
              uop, intop, fltop, convop, true_or, or_true, Bool.false_eq_true, ret_ok, ret_normal, outV, rvV, rvs, ex_some, pureV, pureX, pureX.pure1', pure1, Bool.true_and,
              Bool.false_and, Bool.and_true, Bool.and_false, Option.isNone_none, AV.cells, AV.one, storable, laid, refless, refless1, List.all_cons, List.all_nil, List.length_cons,
              List.length_nil, List.getElem?_cons_zero, List.getElem?_cons_succ, List.set_cons_zero, List.set_cons_succ, List.set_nil, List.map_cons, List.map_nil, vload, loadC,
              storeC, vnil, vfaddr, vextract, callTo, List.mapM_cons, List.mapM_nil, Option.pure_def, Option.bind_eq_bind, Option.bind_some, tabOf_cons, flatT, flatE, flatC,
              and_self, and_true, true_and, implies_true, forall_const, not_true_eq_false, not_false_eq_true, false_implies, List.take_succ_cons, List.drop_succ_cons,
              List.take_zero, List.drop_zero, Bool.not_true, Bool.not_false, beq_self_eq_true, decide_true, decide_false, eq_self, Int.reduceEq, Int.reduceLE, Int.reduceLT,
              Bool.not_not, Bool.true_or, Bool.or_true, Bool.false_or, Bool.or_false, if_true, if_false, List.getElem?_nil, Kl_normal, Kl_exit, Kl_ret, bits_i64, cast_lit,
              toNat_lit, Int.reduceAdd, Int.reduceSub, Int.reduceMul, Int.reduceNeg, Int.reducePow, Nat.reducePow, Int.reduceToNat, Nat.reduceSub, Nat.mul_one, Int.toNat_zero,
              prod_eta, List.nil_append, List.cons_append, List.append_nil, vconv, vmm, vidxA, viaddrA, iaddr_sl, iaddr_lsl, getE, vfield, vlen, fillC, fillE, List.replicate,
              elemsOf, List.length_map, f2iK_eq, bits_i64, bits_i32, bits_u64, bits_u32, bits_u8, e_mov, g_mov, e_call, g_call, g_sqrt]
    repeat' (first
      | ((first | (refine eGI_of (fun h => ?_) (fun h => ?_)) | (refine eCc_of (fun h => ?_) (fun h => ?_))) <;> (try simp only [Bool.not_eq_true', Bool.not_eq_false'] at h) <;> simp only [h,
        eA_seq, eA_reg, eA_ret, eA_skip, eA_cond, eA_block, eA_exit, eCc_true, eCc_false, Kq_normal, Kq_ret, Kq_exit, Kb_normal, Kb_exit, Kb_ret, Kreg_eq, eI_nil, bindSt_some,
              bindSt_none, bindSt_ite, eR_eq, eGI_tt, eGI_ff, eGI_tf, eGI_ft, eop, vop, ev_t, ev_c, ev_f, Option.map, put_some, put_none, set_eq, setH_eq, get_eq, hp_eq, keep_cons,
              keep_nil, lk_cons, lk_nil, startSt, envOf, reduceIte, Nat.reduceEqDiff, Nat.reduceAdd, Nat.zero_add, Nat.add_zero, Nat.reduceMul, Nat.reduceLT, Nat.reduceLeDiff, bop,
              uop, intop, fltop, convop, true_or, or_true, Bool.false_eq_true, ret_ok, ret_normal, outV, rvV, rvs, ex_some, pureV, pureX, pureX.pure1', pure1, Bool.true_and,
              Bool.false_and, Bool.and_true, Bool.and_false, Option.isNone_none, AV.cells, AV.one, storable, laid, refless, refless1, List.all_cons, List.all_nil, List.length_cons,
              List.length_nil, List.getElem?_cons_zero, List.getElem?_cons_succ, List.set_cons_zero, List.set_cons_succ, List.set_nil, List.map_cons, List.map_nil, vload, loadC,
              storeC, vnil, vfaddr, vextract, callTo, List.mapM_cons, List.mapM_nil, Option.pure_def, Option.bind_eq_bind, Option.bind_some, tabOf_cons, flatT, flatE, flatC,
              and_self, and_true, true_and, implies_true, forall_const, not_true_eq_false, not_false_eq_true, false_implies, List.take_succ_cons, List.drop_succ_cons,
              List.take_zero, List.drop_zero, Bool.not_true, Bool.not_false, beq_self_eq_true, decide_true, decide_false, eq_self, Int.reduceEq, Int.reduceLE, Int.reduceLT,
              Bool.not_not, Bool.true_or, Bool.or_true, Bool.false_or, Bool.or_false, if_true, if_false, List.getElem?_nil, Kl_normal, Kl_exit, Kl_ret, bits_i64, cast_lit,
              toNat_lit, Int.reduceAdd, Int.reduceSub, Int.reduceMul, Int.reduceNeg, Int.reducePow, Nat.reducePow, Int.reduceToNat, Nat.reduceSub, Nat.mul_one, Int.toNat_zero,
              prod_eta, List.nil_append, List.cons_append, List.append_nil, vconv, vmm, vidxA, viaddrA, iaddr_sl, iaddr_lsl, getE, vfield, vlen, fillC, fillE, List.replicate,
              elemsOf, List.length_map, f2iK_eq, bits_i64, bits_i32, bits_u64, bits_u32, bits_u8, e_mov, g_mov, e_call, g_call, g_sqrt]))
    all_goals (try simp only [*, m_math_Sqrt, Bool.and_true, Bool.true_and, Bool.and_false, Bool.false_and, Bool.or_true, Bool.true_or, Bool.or_false, Bool.false_or, Bool.not_true, Bool.not_false, Bool.false_eq_true, if_true, if_false, reduceIte, decide_true, decide_false])
    all_goals (try (simp_all; done))
  · cases h
def m_spec_l01Narrow (x0 : Nat) : Nat := (narrow x0)
def p_spec_l01Narrow (x0 : Nat) : Bool := (narrowOk x0)
def g_spec_l01Narrow : List AV → Option AV
  | [.flt .f64 y0] => if p_spec_l01Narrow y0 = true then some (.flt .f32 (m_spec_l01Narrow y0)) else none
  | _ => none
def ic105 : ICode := (.seq (.reg [⟨(some 2), none, (.mov (.c (.flt .f32 0)))⟩] [0]) (.seq (.reg [⟨(some 3), none, (.mov (.t 0))⟩, ⟨(some 4), none, (.conv (.flt .f32) (.t 3))⟩,
      ⟨(some 2), none, (.mov (.t 4))⟩] [2]) .ret))
def cp105 : CP := { n := 5, kp := [[0], [2]] }
theorem s105 : ∀ vs r, g_spec_l01Narrow vs = some r → Says Try.prog 105 vs r := by
  intro vs r h
  unfold g_spec_l01Narrow at h
  split at h
  · rename_i y0
    split at h
    · rename_i hp
      cases h
      refine spec_of (tab := tabOf []) (cp := cp105) (ic := ic105) (rvl := [(.t 2)]) hm tabOk_nil Try.func105 rfl rfl rfl (by kernel_rfl) rfl (Nat.le_of_ble_eq_true rfl) ?_
      show eA _ _ _ _
      unfold ic105
      simp only [p_spec_l01Narrow, Bool.and_eq_true, Bool.or_eq_true, decide_eq_true_eq, Bool.not_eq_true', decide_eq_false_iff_not] at hp
      simp only [
          hp, eA_seq, eA_reg, eA_ret, eA_skip, eA_cond, eA_block, eA_exit, eCc_true, eCc_false, Kq_normal, Kq_ret, Kq_exit, Kb_normal, Kb_exit, Kb_ret, Kreg_eq, eI_nil, bindSt_some,
                bindSt_none, bindSt_ite, eR_eq, eGI_tt, eGI_ff, eGI_tf, eGI_ft, eop, vop, ev_t, ev_c, ev_f, Option.map, put_some, put_none, set_eq, setH_eq, get_eq, hp_eq,
                keep_cons, keep_nil, lk_cons, lk_nil, startSt, envOf, reduceIte, Nat.reduceEqDiff, Nat.reduceAdd, Nat.zero_add, Nat.add_zero, Nat.reduceMul, Nat.reduceLT,
                Nat.reduceLeDiff, bop, uop, intop, fltop, convop, true_or, or_true, Bool.false_eq_true, ret_ok, ret_normal, outV, rvV, rvs, ex_some, pureV, pureX, pureX.pure1',
                pure1, Bool.true_and, Bool.false_and, Bool.and_true, Bool.and_false, Option.isNone_none, AV.cells, AV.one, storable, laid, refless, refless1, List.all_cons,
                List.all_nil, List.length_cons, List.length_nil, List.getElem?_cons_zero, List.getElem?_cons_succ, List.set_cons_zero, List.set_cons_succ, List.set_nil,
                List.map_cons, List.map_nil, vload, loadC, storeC, vnil, vfaddr, vextract, callTo, List.mapM_cons, List.mapM_nil, Option.pure_def, Option.bind_eq_bind,
                Option.bind_some, tabOf_cons, flatT, flatE, flatC, and_self, and_true, true_and, implies_true, forall_const, not_true_eq_false, not_false_eq_true, false_implies,
                List.take_succ_cons, List.drop_succ_cons, List.take_zero, List.drop_zero, Bool.not_true, Bool.not_false, beq_self_eq_true, decide_true, decide_false, eq_self,
                Int.reduceEq, Int.reduceLE, Int.reduceLT, Bool.not_not, Bool.true_or, Bool.or_true, Bool.false_or, Bool.or_false, if_true, if_false, List.getElem?_nil, Kl_normal,
                Kl_exit, Kl_ret, bits_i64, cast_lit, toNat_lit, Int.reduceAdd, Int.reduceSub, Int.reduceMul, Int.reduceNeg, Int.reducePow, Nat.reducePow, Int.reduceToNat,
                Nat.reduceSub, Nat.mul_one, Int.toNat_zero, prod_eta, List.nil_append, List.cons_append, List.append_nil, vconv, vmm, vidxA, viaddrA, iaddr_sl, iaddr_lsl, getE,
                vfield, vlen, fillC, fillE, List.replicate, elemsOf, List.length_map, f2iK_eq, bits_i64, bits_i32, bits_u64, bits_u32, bits_u8, e_mov, g_mov, e_conv, g_conv]
      repeat' (first
        | ((first | (refine eGI_of (fun h => ?_) (fun h => ?_)) | (refine eCc_of (fun h => ?_) (fun h => ?_))) <;> (try simp only [Bool.not_eq_true', Bool.not_eq_false'] at h) <;> (try simp only [h, reduceCtorEq, Bool.not_eq_true', decide_eq_false_iff_not, Bool.not_true, Bool.not_false, Bool.false_or, Bool.true_or, Bool.true_and, Bool.false_and, Bool.and_eq_true, Bool.or_eq_true, if_true, if_false, reduceIte, Bool.false_eq_true, and_true, true_and, false_or, or_false, decide_eq_true_eq, not_false_eq_true, not_true_eq_false] at hp) <;> (try (have h2 := h; simp only [decide_eq_true_eq, decide_eq_false_iff_not] at h2; simp only [h2, if_true, if_false, false_or, true_or, or_true, or_false, and_true, true_and, not_false_eq_true, not_true_eq_false] at hp)) <;> simp only [h,
          hp, eA_seq, eA_reg, eA_ret, eA_skip, eA_cond, eA_block, eA_exit, eCc_true, eCc_false, Kq_normal, Kq_ret, Kq_exit, Kb_normal, Kb_exit, Kb_ret, Kreg_eq, eI_nil, bindSt_some,
                bindSt_none, bindSt_ite, eR_eq, eGI_tt, eGI_ff, eGI_tf, eGI_ft, eop, vop, ev_t, ev_c, ev_f, Option.map, put_some, put_none, set_eq, setH_eq, get_eq, hp_eq,
                keep_cons, keep_nil, lk_cons, lk_nil, startSt, envOf, reduceIte, Nat.reduceEqDiff, Nat.reduceAdd, Nat.zero_add, Nat.add_zero, Nat.reduceMul, Nat.reduceLT,
                Nat.reduceLeDiff, bop, uop, intop, fltop, convop, true_or, or_true, Bool.false_eq_true, ret_ok, ret_normal, outV, rvV, rvs, ex_some, pureV, pureX, pureX.pure1',
                pure1, Bool.true_and, Bool.false_and, Bool.and_true, Bool.and_false, Option.isNone_none, AV.cells, AV.one, storable, laid, refless, refless1, List.all_cons,
                List.all_nil, List.length_cons, List.length_nil, List.getElem?_cons_zero, List.getElem?_cons_succ, List.set_cons_zero, List.set_cons_succ, List.set_nil,
                List.map_cons, List.map_nil, vload, loadC, storeC, vnil, vfaddr, vextract, callTo, List.mapM_cons, List.mapM_nil, Option.pure_def, Option.bind_eq_bind,
                Option.bind_some, tabOf_cons, flatT, flatE, flatC, and_self, and_true, true_and, implies_true, forall_const, not_true_eq_false, not_false_eq_true, false_implies,
                List.take_succ_cons, List.drop_succ_cons, List.take_zero, List.drop_zero, Bool.not_true, Bool.not_false, beq_self_eq_true, decide_true, decide_false, eq_self,
                Int.reduceEq, Int.reduceLE, Int.reduceLT, Bool.not_not, Bool.true_or, Bool.or_true, Bool.false_or, Bool.or_false, if_true, if_false, List.getElem?_nil, Kl_normal,
                Kl_exit, Kl_ret, bits_i64, cast_lit, toNat_lit, Int.reduceAdd, Int.reduceSub, Int.reduceMul, Int.reduceNeg, Int.reducePow, Nat.reducePow, Int.reduceToNat,
                Nat.reduceSub, Nat.mul_one, Int.toNat_zero, prod_eta, List.nil_append, List.cons_append, List.append_nil, vconv, vmm, vidxA, viaddrA, iaddr_sl, iaddr_lsl, getE,
                vfield, vlen, fillC, fillE, List.replicate, elemsOf, List.length_map, f2iK_eq, bits_i64, bits_i32, bits_u64, bits_u32, bits_u8, e_mov, g_mov, e_conv, g_conv]))
      all_goals (try simp only [*, m_spec_l01Narrow, Bool.and_true, Bool.true_and, Bool.and_false, Bool.false_and, Bool.or_true, Bool.true_or, Bool.or_false, Bool.false_or, Bool.not_true, Bool.not_false, Bool.false_eq_true, if_true, if_false, reduceIte, decide_true, decide_false])
      all_goals (try (simp_all; done))
    · cases h
  · cases h
def m_spec_l01Sqrt (x0 : Nat) : Nat := (m_spec_l01Narrow (m_math_Sqrt (widen x0)))
def p_spec_l01Sqrt (x0 : Nat) : Bool := (p_spec_l01Narrow (m_math_Sqrt (widen x0)))
def g_spec_l01Sqrt : List AV → Option AV
  | [.flt .f32 y0] => if p_spec_l01Sqrt y0 = true then some (.flt .f32 (m_spec_l01Sqrt y0)) else none
  | _ => none
def ic95 : ICode := (.seq (.reg [⟨(some 2), none, (.mov (.c (.flt .f32 0)))⟩] [0]) (.seq (.reg [⟨(some 3), none, (.mov (.t 0))⟩, ⟨(some 4), none, (.conv (.flt .f64) (.t 3))⟩, ⟨(some
      5), none, (.call (.fn 104) [(.t 4)] [])⟩, ⟨(some 6), none, (.call (.fn 105) [(.t 5)] [])⟩, ⟨(some 2), none, (.mov (.t 6))⟩] [2]) .ret))
def cp95 : CP := { n := 7, kp := [[0], [2]] }
theorem s95 : ∀ vs r, g_spec_l01Sqrt vs = some r → Says Try.prog 95 vs r := by
  intro vs r h
  unfold g_spec_l01Sqrt at h
  split at h
  · rename_i y0
    split at h
    · rename_i hp
      cases h
      refine spec_of (tab := tabOf [(104, g_math_Sqrt), (105, g_spec_l01Narrow)]) (cp := cp95) (ic := ic95) (rvl := [(.t 2)]) hm (tabOk_cons s104 (tabOk_cons s105 tabOk_nil)) Try.func95 rfl rfl rfl (by kernel_rfl) rfl (Nat.le_of_ble_eq_true rfl) ?_
      show eA _ _ _ _
      unfold ic95
      simp only [p_spec_l01Sqrt, Bool.and_eq_true, Bool.or_eq_true, decide_eq_true_eq, Bool.not_eq_true', decide_eq_false_iff_not] at hp
      simp only [
          hp, eA_seq, eA_reg, eA_ret, eA_skip, eA_cond, eA_block, eA_exit, eCc_true, eCc_false, Kq_normal, Kq_ret, Kq_exit, Kb_normal, Kb_exit, Kb_ret, Kreg_eq, eI_nil, bindSt_some,
                bindSt_none, bindSt_ite, eR_eq, eGI_tt, eGI_ff, eGI_tf, eGI_ft, eop, vop, ev_t, ev_c, ev_f, Option.map, put_some, put_none, set_eq, setH_eq, get_eq, hp_eq,
                keep_cons, keep_nil, lk_cons, lk_nil, startSt, envOf, reduceIte, Nat.reduceEqDiff, Nat.reduceAdd, Nat.zero_add, Nat.add_zero, Nat.reduceMul, Nat.reduceLT,
                Nat.reduceLeDiff, bop, uop, intop, fltop, convop, true_or, or_true, Bool.false_eq_true, ret_ok, ret_normal, outV, rvV, rvs, ex_some, pureV, pureX, pureX.pure1',
                pure1, Bool.true_and, Bool.false_and, Bool.and_true, Bool.and_false, Option.isNone_none, AV.cells, AV.one, storable, laid, refless, refless1, List.all_cons,
                List.all_nil, List.length_cons, List.length_nil, List.getElem?_cons_zero, List.getElem?_cons_succ, List.set_cons_zero, List.set_cons_succ, List.set_nil,
                List.map_cons, List.map_nil, vload, loadC, storeC, vnil, vfaddr, vextract, callTo, List.mapM_cons, List.mapM_nil, Option.pure_def, Option.bind_eq_bind,
                Option.bind_some, tabOf_cons, flatT, flatE, flatC, and_self, and_true, true_and, implies_true, forall_const, not_true_eq_false, not_false_eq_true, false_implies,
                List.take_succ_cons, List.drop_succ_cons, List.take_zero, List.drop_zero, Bool.not_true, Bool.not_false, beq_self_eq_true, decide_true, decide_false, eq_self,
                Int.reduceEq, Int.reduceLE, Int.reduceLT, Bool.not_not, Bool.true_or, Bool.or_true, Bool.false_or, Bool.or_false, if_true, if_false, List.getElem?_nil, Kl_normal,
                Kl_exit, Kl_ret, bits_i64, cast_lit, toNat_lit, Int.reduceAdd, Int.reduceSub, Int.reduceMul, Int.reduceNeg, Int.reducePow, Nat.reducePow, Int.reduceToNat,
                Nat.reduceSub, Nat.mul_one, Int.toNat_zero, prod_eta, List.nil_append, List.cons_append, List.append_nil, vconv, vmm, vidxA, viaddrA, iaddr_sl, iaddr_lsl, getE,
                vfield, vlen, fillC, fillE, List.replicate, elemsOf, List.length_map, f2iK_eq, bits_i64, bits_i32, bits_u64, bits_u32, bits_u8, e_mov, g_mov, e_conv, g_conv, e_call,
                g_call, g_math_Sqrt, g_spec_l01Narrow]
      repeat' (first
        | ((first | (refine eGI_of (fun h => ?_) (fun h => ?_)) | (refine eCc_of (fun h => ?_) (fun h => ?_))) <;> (try simp only [Bool.not_eq_true', Bool.not_eq_false'] at h) <;> (try simp only [h, reduceCtorEq, Bool.not_eq_true', decide_eq_false_iff_not, Bool.not_true, Bool.not_false, Bool.false_or, Bool.true_or, Bool.true_and, Bool.false_and, Bool.and_eq_true, Bool.or_eq_true, if_true, if_false, reduceIte, Bool.false_eq_true, and_true, true_and, false_or, or_false, decide_eq_true_eq, not_false_eq_true, not_true_eq_false] at hp) <;> (try (have h2 := h; simp only [decide_eq_true_eq, decide_eq_false_iff_not] at h2; simp only [h2, if_true, if_false, false_or, true_or, or_true, or_false, and_true, true_and, not_false_eq_true, not_true_eq_false] at hp)) <;> simp only [h,
          hp, eA_seq, eA_reg, eA_ret, eA_skip, eA_cond, eA_block, eA_exit, eCc_true, eCc_false, Kq_normal, Kq_ret, Kq_exit, Kb_normal, Kb_exit, Kb_ret, Kreg_eq, eI_nil, bindSt_some,
                bindSt_none, bindSt_ite, eR_eq, eGI_tt, eGI_ff, eGI_tf, eGI_ft, eop, vop, ev_t, ev_c, ev_f, Option.map, put_some, put_none, set_eq, setH_eq, get_eq, hp_eq,
                keep_cons, keep_nil, lk_cons, lk_nil, startSt, envOf, reduceIte, Nat.reduceEqDiff, Nat.reduceAdd, Nat.zero_add, Nat.add_zero, Nat.reduceMul, Nat.reduceLT,
                Nat.reduceLeDiff, bop, uop, intop, fltop, convop, true_or, or_true, Bool.false_eq_true, ret_ok, ret_normal, outV, rvV, rvs, ex_some, pureV, pureX, pureX.pure1',
                pure1, Bool.true_and, Bool.false_and, Bool.and_true, Bool.and_false, Option.isNone_none, AV.cells, AV.one, storable, laid, refless, refless1, List.all_cons,
                List.all_nil, List.length_cons, List.length_nil, List.getElem?_cons_zero, List.getElem?_cons_succ, List.set_cons_zero, List.set_cons_succ, List.set_nil,
                List.map_cons, List.map_nil, vload, loadC, storeC, vnil, vfaddr, vextract, callTo, List.mapM_cons, List.mapM_nil, Option.pure_def, Option.bind_eq_bind,
                Option.bind_some, tabOf_cons, flatT, flatE, flatC, and_self, and_true, true_and, implies_true, forall_const, not_true_eq_false, not_false_eq_true, false_implies,
                List.take_succ_cons, List.drop_succ_cons, List.take_zero, List.drop_zero, Bool.not_true, Bool.not_false, beq_self_eq_true, decide_true, decide_false, eq_self,
                Int.reduceEq, Int.reduceLE, Int.reduceLT, Bool.not_not, Bool.true_or, Bool.or_true, Bool.false_or, Bool.or_false, if_true, if_false, List.getElem?_nil, Kl_normal,
                Kl_exit, Kl_ret, bits_i64, cast_lit, toNat_lit, Int.reduceAdd, Int.reduceSub, Int.reduceMul, Int.reduceNeg, Int.reducePow, Nat.reducePow, Int.reduceToNat,
                Nat.reduceSub, Nat.mul_one, Int.toNat_zero, prod_eta, List.nil_append, List.cons_append, List.append_nil, vconv, vmm, vidxA, viaddrA, iaddr_sl, iaddr_lsl, getE,
                vfield, vlen, fillC, fillE, List.replicate, elemsOf, List.length_map, f2iK_eq, bits_i64, bits_i32, bits_u64, bits_u32, bits_u8, e_mov, g_mov, e_conv, g_conv, e_call,
                g_call, g_math_Sqrt, g_spec_l01Narrow]))
      all_goals (try simp only [*, m_spec_l01Sqrt, Bool.and_true, Bool.true_and, Bool.and_false, Bool.false_and, Bool.or_true, Bool.true_or, Bool.or_false, Bool.false_or, Bool.not_true, Bool.not_false, Bool.false_eq_true, if_true, if_false, reduceIte, decide_true, decide_false])
      all_goals (try (simp_all; done))
    · cases h
  · cases h
def m_spec_l01Long (x0 : (Nat × Nat × Nat)) : Nat := (m_spec_l01Sqrt (m_spec_l01Inner x0 x0))
def p_spec_l01Long (x0 : (Nat × Nat × Nat)) : Bool := (p_spec_l01Sqrt (m_spec_l01Inner x0 x0))
def g_spec_l01Long : List AV → Option AV
  | [.agg [.flt .f32 y0, .flt .f32 y1, .flt .f32 y2]] => if p_spec_l01Long (y0, y1, y2) = true then some (.flt .f32 (m_spec_l01Long (y0, y1,
      y2))) else none
  | _ => none
def ic69 : ICode := (.seq (.reg [⟨(some 1), none, (.box 3 (.t 0))⟩, ⟨(some 2), none, (.mov (.c (.flt .f32 0)))⟩] [1]) (.seq (.reg [⟨(some 3), none, (.load (some 3) (.t 1))⟩, ⟨(some
      4), none, (.load (some 3) (.t 1))⟩, ⟨(some 5), none, (.call (.fn 96) [(.t 3), (.t 4)] [])⟩, ⟨(some 6), none, (.call (.fn 95) [(.t 5)] [])⟩, ⟨(some 2), none, (.mov (.t 6))⟩]
      [2]) .ret))
def cp69 : CP := { n := 7, kp := [[1], [2]] }
theorem s69 : ∀ vs r, g_spec_l01Long vs = some r → Says Try.prog 69 vs r := by
  intro vs r h
  unfold g_spec_l01Long at h
  split at h
  · rename_i y0 y1 y2
    split at h
    · rename_i hp
      cases h
      refine spec_of (tab := tabOf [(95, g_spec_l01Sqrt), (96, g_spec_l01Inner)]) (cp := cp69) (ic := ic69) (rvl := [(.t 2)]) hm (tabOk_cons s95 (tabOk_cons s96 tabOk_nil)) Try.func69 rfl rfl rfl (by kernel_rfl) rfl (Nat.le_of_ble_eq_true rfl) ?_
      show eA _ _ _ _
      unfold ic69
      simp only [p_spec_l01Long, Bool.and_eq_true, Bool.or_eq_true, decide_eq_true_eq, Bool.not_eq_true', decide_eq_false_iff_not] at hp
      simp only [
          hp, eA_seq, eA_reg, eA_ret, eA_skip, eA_cond, eA_block, eA_exit, eCc_true, eCc_false, Kq_normal, Kq_ret, Kq_exit, Kb_normal, Kb_exit, Kb_ret, Kreg_eq, eI_nil, bindSt_some,
                bindSt_none, bindSt_ite, eR_eq, eGI_tt, eGI_ff, eGI_tf, eGI_ft, eop, vop, ev_t, ev_c, ev_f, Option.map, put_some, put_none, set_eq, setH_eq, get_eq, hp_eq,
                keep_cons, keep_nil, lk_cons, lk_nil, startSt, envOf, reduceIte, Nat.reduceEqDiff, Nat.reduceAdd, Nat.zero_add, Nat.add_zero, Nat.reduceMul, Nat.reduceLT,
                Nat.reduceLeDiff, bop, uop, intop, fltop, convop, true_or, or_true, Bool.false_eq_true, ret_ok, ret_normal, outV, rvV, rvs, ex_some, pureV, pureX, pureX.pure1',
                pure1, Bool.true_and, Bool.false_and, Bool.and_true, Bool.and_false, Option.isNone_none, AV.cells, AV.one, storable, laid, refless, refless1, List.all_cons,
                List.all_nil, List.length_cons, List.length_nil, List.getElem?_cons_zero, List.getElem?_cons_succ, List.set_cons_zero, List.set_cons_succ, List.set_nil,
                List.map_cons, List.map_nil, vload, loadC, storeC, vnil, vfaddr, vextract, callTo, List.mapM_cons, List.mapM_nil, Option.pure_def, Option.bind_eq_bind,
                Option.bind_some, tabOf_cons, flatT, flatE, flatC, and_self, and_true, true_and, implies_true, forall_const, not_true_eq_false, not_false_eq_true, false_implies,
                List.take_succ_cons, List.drop_succ_cons, List.take_zero, List.drop_zero, Bool.not_true, Bool.not_false, beq_self_eq_true, decide_true, decide_false, eq_self,
                Int.reduceEq, Int.reduceLE, Int.reduceLT, Bool.not_not, Bool.true_or, Bool.or_true, Bool.false_or, Bool.or_false, if_true, if_false, List.getElem?_nil, Kl_normal,
                Kl_exit, Kl_ret, bits_i64, cast_lit, toNat_lit, Int.reduceAdd, Int.reduceSub, Int.reduceMul, Int.reduceNeg, Int.reducePow, Nat.reducePow, Int.reduceToNat,
                Nat.reduceSub, Nat.mul_one, Int.toNat_zero, prod_eta, List.nil_append, List.cons_append, List.append_nil, vconv, vmm, vidxA, viaddrA, iaddr_sl, iaddr_lsl, getE,
                vfield, vlen, fillC, fillE, List.replicate, elemsOf, List.length_map, f2iK_eq, bits_i64, bits_i32, bits_u64, bits_u32, bits_u8, e_mov, g_mov, e_box, g_box, e_load,
                g_load, e_call, g_call, g_spec_l01Sqrt, g_spec_l01Inner]
      repeat' (first
        | ((first | (refine eGI_of (fun h => ?_) (fun h => ?_)) | (refine eCc_of (fun h => ?_) (fun h => ?_))) <;> (try simp only [Bool.not_eq_true', Bool.not_eq_false'] at h) <;> (try simp only [h, reduceCtorEq, Bool.not_eq_true', decide_eq_false_iff_not, Bool.not_true, Bool.not_false, Bool.false_or, Bool.true_or, Bool.true_and, Bool.false_and, Bool.and_eq_true, Bool.or_eq_true, if_true, if_false, reduceIte, Bool.false_eq_true, and_true, true_and, false_or, or_false, decide_eq_true_eq, not_false_eq_true, not_true_eq_false] at hp) <;> (try (have h2 := h; simp only [decide_eq_true_eq, decide_eq_false_iff_not] at h2; simp only [h2, if_true, if_false, false_or, true_or, or_true, or_false, and_true, true_and, not_false_eq_true, not_true_eq_false] at hp)) <;> simp only [h,
          hp, eA_seq, eA_reg, eA_ret, eA_skip, eA_cond, eA_block, eA_exit, eCc_true, eCc_false, Kq_normal, Kq_ret, Kq_exit, Kb_normal, Kb_exit, Kb_ret, Kreg_eq, eI_nil, bindSt_some,
                bindSt_none, bindSt_ite, eR_eq, eGI_tt, eGI_ff, eGI_tf, eGI_ft, eop, vop, ev_t, ev_c, ev_f, Option.map, put_some, put_none, set_eq, setH_eq, get_eq, hp_eq,
                keep_cons, keep_nil, lk_cons, lk_nil, startSt, envOf, reduceIte, Nat.reduceEqDiff, Nat.reduceAdd, Nat.zero_add, Nat.add_zero, Nat.reduceMul, Nat.reduceLT,
                Nat.reduceLeDiff, bop, uop, intop, fltop, convop, true_or, or_true, Bool.false_eq_true, ret_ok, ret_normal, outV, rvV, rvs, ex_some, pureV, pureX, pureX.pure1',
                pure1, Bool.true_and, Bool.false_and, Bool.and_true, Bool.and_false, Option.isNone_none, AV.cells, AV.one, storable, laid, refless, refless1, List.all_cons,
                List.all_nil, List.length_cons, List.length_nil, List.getElem?_cons_zero, List.getElem?_cons_succ, List.set_cons_zero, List.set_cons_succ, List.set_nil,
                List.map_cons, List.map_nil, vload, loadC, storeC, vnil, vfaddr, vextract, callTo, List.mapM_cons, List.mapM_nil, Option.pure_def, Option.bind_eq_bind,
                Option.bind_some, tabOf_cons, flatT, flatE, flatC, and_self, and_true, true_and, implies_true, forall_const, not_true_eq_false, not_false_eq_true, false_implies,
                List.take_succ_cons, List.drop_succ_cons, List.take_zero, List.drop_zero, Bool.not_true, Bool.not_false, beq_self_eq_true, decide_true, decide_false, eq_self,
                Int.reduceEq, Int.reduceLE, Int.reduceLT, Bool.not_not, Bool.true_or, Bool.or_true, Bool.false_or, Bool.or_false, if_true, if_false, List.getElem?_nil, Kl_normal,
                Kl_exit, Kl_ret, bits_i64, cast_lit, toNat_lit, Int.reduceAdd, Int.reduceSub, Int.reduceMul, Int.reduceNeg, Int.reducePow, Nat.reducePow, Int.reduceToNat,
                Nat.reduceSub, Nat.mul_one, Int.toNat_zero, prod_eta, List.nil_append, List.cons_append, List.append_nil, vconv, vmm, vidxA, viaddrA, iaddr_sl, iaddr_lsl, getE,
                vfield, vlen, fillC, fillE, List.replicate, elemsOf, List.length_map, f2iK_eq, bits_i64, bits_i32, bits_u64, bits_u32, bits_u8, e_mov, g_mov, e_box, g_box, e_load,
                g_load, e_call, g_call, g_spec_l01Sqrt, g_spec_l01Inner]))
      all_goals (try simp only [*, m_spec_l01Long, Bool.and_true, Bool.true_and, Bool.and_false, Bool.false_and, Bool.or_true, Bool.true_or, Bool.or_false, Bool.false_or, Bool.not_true, Bool.not_false, Bool.false_eq_true, if_true, if_false, reduceIte, decide_true, decide_false])
      all_goals (try (simp_all; done))
    · cases h
  · cases h
def m_spec_l01Finite (x0 : Nat) : Bool := (feq .f32 (fsub .f32 x0 x0) 0)
def g_spec_l01Finite : List AV → Option AV
  | [.flt .f32 y0] => some (.bool (m_spec_l01Finite y0))
  | _ => none
def ic90 : ICode := (.seq (.reg [⟨(some 2), none, (.mov (.c (.bool false)))⟩] [0]) (.seq (.reg [⟨(some 3), none, (.mov (.t 0))⟩, ⟨(some 4), none, (.mov (.t 0))⟩, ⟨(some 5), none,
      (.bin .sub false (.t 3) (.t 4))⟩, ⟨(some 6), none, (.bin .eql false (.t 5) (.c (.flt .f32 0)))⟩, ⟨(some 2), none, (.mov (.t 6))⟩] [2]) .ret))
def cp90 : CP := { n := 7, kp := [[0], [2]] }
theorem s90 : ∀ vs r, g_spec_l01Finite vs = some r → Says Try.prog 90 vs r := by
  intro vs r h
  unfold g_spec_l01Finite at h
  split at h
  · rename_i y0
    cases h
    refine spec_of (tab := tabOf []) (cp := cp90) (ic := ic90) (rvl := [(.t 2)]) hm tabOk_nil Try.func90 rfl rfl rfl (by kernel_rfl) rfl (Nat.le_of_ble_eq_true rfl) ?_
    show eA _ _ _ _
    unfold ic90
    simp only [
        eA_seq, eA_reg, eA_ret, eA_skip, eA_cond, eA_block, eA_exit, eCc_true, eCc_false, Kq_normal, Kq_ret, Kq_exit, Kb_normal, Kb_exit, Kb_ret, Kreg_eq, eI_nil, bindSt_some,
              bindSt_none, bindSt_ite, eR_eq, eGI_tt, eGI_ff, eGI_tf, eGI_ft, eop, vop, ev_t, ev_c, ev_f, Option.map, put_some, put_none, set_eq, setH_eq, get_eq, hp_eq, keep_cons,
              keep_nil, lk_cons, lk_nil, startSt, envOf, reduceIte, Nat.reduceEqDiff, Nat.reduceAdd, Nat.zero_add, Nat.add_zero, Nat.reduceMul, Nat.reduceLT, Nat.reduceLeDiff, bop,
              uop, intop, fltop, convop, true_or, or_true, Bool.false_eq_true, ret_ok, ret_normal, outV, rvV, rvs, ex_some, pureV, pureX, pureX.pure1', pure1, Bool.true_and,
              Bool.false_and, Bool.and_true, Bool.and_false, Option.isNone_none, AV.cells, AV.one, storable, laid, refless, refless1, List.all_cons, List.all_nil, List.length_cons,
              List.length_nil, List.getElem?_cons_zero, List.getElem?_cons_succ, List.set_cons_zero, List.set_cons_succ, List.set_nil, List.map_cons, List.map_nil, vload, loadC,
              storeC, vnil, vfaddr, vextract, callTo, List.mapM_cons, List.mapM_nil, Option.pure_def, Option.bind_eq_bind, Option.bind_some, tabOf_cons, flatT, flatE, flatC,
              and_self, and_true, true_and, implies_true, forall_const, not_true_eq_false, not_false_eq_true, false_implies, List.take_succ_cons, List.drop_succ_cons,
              List.take_zero, List.drop_zero, Bool.not_true, Bool.not_false, beq_self_eq_true, decide_true, decide_false, eq_self, Int.reduceEq, Int.reduceLE, Int.reduceLT,
              Bool.not_not, Bool.true_or, Bool.or_true, Bool.false_or, Bool.or_false, if_true, if_false, List.getElem?_nil, Kl_normal, Kl_exit, Kl_ret, bits_i64, cast_lit,
              toNat_lit, Int.reduceAdd, Int.reduceSub, Int.reduceMul, Int.reduceNeg, Int.reducePow, Nat.reducePow, Int.reduceToNat, Nat.reduceSub, Nat.mul_one, Int.toNat_zero,
              prod_eta, List.nil_append, List.cons_append, List.append_nil, vconv, vmm, vidxA, viaddrA, iaddr_sl, iaddr_lsl, getE, vfield, vlen, fillC, fillE, List.replicate,
              elemsOf, List.length_map, f2iK_eq, bits_i64, bits_i32, bits_u64, bits_u32, bits_u8, e_mov, g_mov, e_bin, g_bin]
    repeat' (first
      | ((first | (refine eGI_of (fun h => ?_) (fun h => ?_)) | (refine eCc_of (fun h => ?_) (fun h => ?_))) <;> (try simp only [Bool.not_eq_true', Bool.not_eq_false'] at h) <;> simp only [h,
        eA_seq, eA_reg, eA_ret, eA_skip, eA_cond, eA_block, eA_exit, eCc_true, eCc_false, Kq_normal, Kq_ret, Kq_exit, Kb_normal, Kb_exit, Kb_ret, Kreg_eq, eI_nil, bindSt_some,
              bindSt_none, bindSt_ite, eR_eq, eGI_tt, eGI_ff, eGI_tf, eGI_ft, eop, vop, ev_t, ev_c, ev_f, Option.map, put_some, put_none, set_eq, setH_eq, get_eq, hp_eq, keep_cons,
              keep_nil, lk_cons, lk_nil, startSt, envOf, reduceIte, Nat.reduceEqDiff, Nat.reduceAdd, Nat.zero_add, Nat.add_zero, Nat.reduceMul, Nat.reduceLT, Nat.reduceLeDiff, bop,
              uop, intop, fltop, convop, true_or, or_true, Bool.false_eq_true, ret_ok, ret_normal, outV, rvV, rvs, ex_some, pureV, pureX, pureX.pure1', pure1, Bool.true_and,
              Bool.false_and, Bool.and_true, Bool.and_false, Option.isNone_none, AV.cells, AV.one, storable, laid, refless, refless1, List.all_cons, List.all_nil, List.length_cons,
              List.length_nil, List.getElem?_cons_zero, List.getElem?_cons_succ, List.set_cons_zero, List.set_cons_succ, List.set_nil, List.map_cons, List.map_nil, vload, loadC,
              storeC, vnil, vfaddr, vextract, callTo, List.mapM_cons, List.mapM_nil, Option.pure_def, Option.bind_eq_bind, Option.bind_some, tabOf_cons, flatT, flatE, flatC,
              and_self, and_true, true_and, implies_true, forall_const, not_true_eq_false, not_false_eq_true, false_implies, List.take_succ_cons, List.drop_succ_cons,
              List.take_zero, List.drop_zero, Bool.not_true, Bool.not_false, beq_self_eq_true, decide_true, decide_false, eq_self, Int.reduceEq, Int.reduceLE, Int.reduceLT,
              Bool.not_not, Bool.true_or, Bool.or_true, Bool.false_or, Bool.or_false, if_true, if_false, List.getElem?_nil, Kl_normal, Kl_exit, Kl_ret, bits_i64, cast_lit,
              toNat_lit, Int.reduceAdd, Int.reduceSub, Int.reduceMul, Int.reduceNeg, Int.reducePow, Nat.reducePow, Int.reduceToNat, Nat.reduceSub, Nat.mul_one, Int.toNat_zero,
              prod_eta, List.nil_append, List.cons_append, List.append_nil, vconv, vmm, vidxA, viaddrA, iaddr_sl, iaddr_lsl, getE, vfield, vlen, fillC, fillE, List.replicate,
              elemsOf, List.length_map, f2iK_eq, bits_i64, bits_i32, bits_u64, bits_u32, bits_u8, e_mov, g_mov, e_bin, g_bin]))
    all_goals (try simp only [*, m_spec_l01Finite, Bool.and_true, Bool.true_and, Bool.and_false, Bool.false_and, Bool.or_true, Bool.true_or, Bool.or_false, Bool.false_or, Bool.not_true, Bool.not_false, Bool.false_eq_true, if_true, if_false, reduceIte, decide_true, decide_false])
    all_goals (try (simp_all; done))
  · cases h
def m_spec_l01Scale (x0 : (Nat × Nat × Nat)) (x1 : Nat) : (Nat × Nat × Nat) := ((fmul .f32 x0.1 x1), (fmul .f32 x0.2.1 x1), (fmul .f32 x0.2.2 x1))
def g_spec_l01Scale : List AV → Option AV
  | [.agg [.flt .f32 y0, .flt .f32 y1, .flt .f32 y2], .flt .f32 y3] => some (AV.agg [(.flt .f32 (m_spec_l01Scale (y0, y1, y2) y3).1), (.flt
      .f32 (m_spec_l01Scale (y0, y1, y2) y3).2.1), (.flt .f32 (m_spec_l01Scale (y0, y1, y2) y3).2.2)])
  | _ => none
def ic91 : ICode := (.seq (.reg [⟨(some 2), none, (.box 3 (.t 0))⟩, ⟨(some 4), none, (.alloc (.agg [(.flt .f32 0), (.flt .f32 0), (.flt .f32 0)]))⟩] [1, 2, 4]) (.seq (.reg [⟨(some
      5), none, (.faddr 0 (.t 2))⟩, ⟨(some 6), none, (.load none (.t 5))⟩, ⟨(some 7), none, (.mov (.t 1))⟩, ⟨(some 8), none, (.bin .mul false (.t 6) (.t 7))⟩, ⟨(some 9), none,
      (.faddr 1 (.t 2))⟩, ⟨(some 10), none, (.load none (.t 9))⟩, ⟨(some 11), none, (.mov (.t 1))⟩, ⟨(some 12), none, (.bin .mul false (.t 10) (.t 11))⟩, ⟨(some 13), none, (.faddr 2
      (.t 2))⟩, ⟨(some 14), none, (.load none (.t 13))⟩, ⟨(some 15), none, (.mov (.t 1))⟩, ⟨(some 16), none, (.bin .mul false (.t 14) (.t 15))⟩, ⟨(some 17), none, (.build [(.flt
      .f32 0), (.flt .f32 0), (.flt .f32 0)] [(0, 1, (.t 8)), (1, 1, (.t 12)), (2, 1, (.t 16))])⟩, ⟨none, none, (.store 3 (.t 4) (.t 17))⟩] [4]) .ret))
def cp91 : CP := { n := 18, kp := [[1, 2, 4], [4]] }
theorem s91 : ∀ vs r, g_spec_l01Scale vs = some r → Says Try.prog 91 vs r := by
  intro vs r h
  unfold g_spec_l01Scale at h
  split at h
  · rename_i y0 y1 y2 y3
    cases h
    refine spec_of (tab := tabOf []) (cp := cp91) (ic := ic91) (rvl := [(.c 4 (some 3))]) hm tabOk_nil Try.func91 rfl rfl rfl (by kernel_rfl) rfl (Nat.le_of_ble_eq_true rfl) ?_
    show eA _ _ _ _
    unfold ic91
    simp only [
        eA_seq, eA_reg, eA_ret, eA_skip, eA_cond, eA_block, eA_exit, eCc_true, eCc_false, Kq_normal, Kq_ret, Kq_exit, Kb_normal, Kb_exit, Kb_ret, Kreg_eq, eI_nil, bindSt_some,
              bindSt_none, bindSt_ite, eR_eq, eGI_tt, eGI_ff, eGI_tf, eGI_ft, eop, vop, ev_t, ev_c, ev_f, Option.map, put_some, put_none, set_eq, setH_eq, get_eq, hp_eq, keep_cons,
              keep_nil, lk_cons, lk_nil, startSt, envOf, reduceIte, Nat.reduceEqDiff, Nat.reduceAdd, Nat.zero_add, Nat.add_zero, Nat.reduceMul, Nat.reduceLT, Nat.reduceLeDiff, bop,
              uop, intop, fltop, convop, true_or, or_true, Bool.false_eq_true, ret_ok, ret_normal, outV, rvV, rvs, ex_some, pureV, pureX, pureX.pure1', pure1, Bool.true_and,
              Bool.false_and, Bool.and_true, Bool.and_false, Option.isNone_none, AV.cells, AV.one, storable, laid, refless, refless1, List.all_cons, List.all_nil, List.length_cons,
              List.length_nil, List.getElem?_cons_zero, List.getElem?_cons_succ, List.set_cons_zero, List.set_cons_succ, List.set_nil, List.map_cons, List.map_nil, vload, loadC,
              storeC, vnil, vfaddr, vextract, callTo, List.mapM_cons, List.mapM_nil, Option.pure_def, Option.bind_eq_bind, Option.bind_some, tabOf_cons, flatT, flatE, flatC,
              and_self, and_true, true_and, implies_true, forall_const, not_true_eq_false, not_false_eq_true, false_implies, List.take_succ_cons, List.drop_succ_cons,
              List.take_zero, List.drop_zero, Bool.not_true, Bool.not_false, beq_self_eq_true, decide_true, decide_false, eq_self, Int.reduceEq, Int.reduceLE, Int.reduceLT,
              Bool.not_not, Bool.true_or, Bool.or_true, Bool.false_or, Bool.or_false, if_true, if_false, List.getElem?_nil, Kl_normal, Kl_exit, Kl_ret, bits_i64, cast_lit,
              toNat_lit, Int.reduceAdd, Int.reduceSub, Int.reduceMul, Int.reduceNeg, Int.reducePow, Nat.reducePow, Int.reduceToNat, Nat.reduceSub, Nat.mul_one, Int.toNat_zero,
              prod_eta, List.nil_append, List.cons_append, List.append_nil, vconv, vmm, vidxA, viaddrA, iaddr_sl, iaddr_lsl, getE, vfield, vlen, fillC, fillE, List.replicate,
              elemsOf, List.length_map, f2iK_eq, bits_i64, bits_i32, bits_u64, bits_u32, bits_u8, e_mov, g_mov, e_alloc, g_alloc, e_box, g_box, e_build, g_build, e_load, g_load,
              e_store, g_store, e_bin, g_bin, e_faddr, g_faddr]
    repeat' (first
      | ((first | (refine eGI_of (fun h => ?_) (fun h => ?_)) | (refine eCc_of (fun h => ?_) (fun h => ?_))) <;> (try simp only [Bool.not_eq_true', Bool.not_eq_false'] at h) <;> simp only [h,
        eA_seq, eA_reg, eA_ret, eA_skip, eA_cond, eA_block, eA_exit, eCc_true, eCc_false, Kq_normal, Kq_ret, Kq_exit, Kb_normal, Kb_exit, Kb_ret, Kreg_eq, eI_nil, bindSt_some,
              bindSt_none, bindSt_ite, eR_eq, eGI_tt, eGI_ff, eGI_tf, eGI_ft, eop, vop, ev_t, ev_c, ev_f, Option.map, put_some, put_none, set_eq, setH_eq, get_eq, hp_eq, keep_cons,
              keep_nil, lk_cons, lk_nil, startSt, envOf, reduceIte, Nat.reduceEqDiff, Nat.reduceAdd, Nat.zero_add, Nat.add_zero, Nat.reduceMul, Nat.reduceLT, Nat.reduceLeDiff, bop,
              uop, intop, fltop, convop, true_or, or_true, Bool.false_eq_true, ret_ok, ret_normal, outV, rvV, rvs, ex_some, pureV, pureX, pureX.pure1', pure1, Bool.true_and,
              Bool.false_and, Bool.and_true, Bool.and_false, Option.isNone_none, AV.cells, AV.one, storable, laid, refless, refless1, List.all_cons, List.all_nil, List.length_cons,
              List.length_nil, List.getElem?_cons_zero, List.getElem?_cons_succ, List.set_cons_zero, List.set_cons_succ, List.set_nil, List.map_cons, List.map_nil, vload, loadC,
              storeC, vnil, vfaddr, vextract, callTo, List.mapM_cons, List.mapM_nil, Option.pure_def, Option.bind_eq_bind, Option.bind_some, tabOf_cons, flatT, flatE, flatC,
              and_self, and_true, true_and, implies_true, forall_const, not_true_eq_false, not_false_eq_true, false_implies, List.take_succ_cons, List.drop_succ_cons,
              List.take_zero, List.drop_zero, Bool.not_true, Bool.not_false, beq_self_eq_true, decide_true, decide_false, eq_self, Int.reduceEq, Int.reduceLE, Int.reduceLT,
              Bool.not_not, Bool.true_or, Bool.or_true, Bool.false_or, Bool.or_false, if_true, if_false, List.getElem?_nil, Kl_normal, Kl_exit, Kl_ret, bits_i64, cast_lit,
              toNat_lit, Int.reduceAdd, Int.reduceSub, Int.reduceMul, Int.reduceNeg, Int.reducePow, Nat.reducePow, Int.reduceToNat, Nat.reduceSub, Nat.mul_one, Int.toNat_zero,
              prod_eta, List.nil_append, List.cons_append, List.append_nil, vconv, vmm, vidxA, viaddrA, iaddr_sl, iaddr_lsl, getE, vfield, vlen, fillC, fillE, List.replicate,
              elemsOf, List.length_map, f2iK_eq, bits_i64, bits_i32, bits_u64, bits_u32, bits_u8, e_mov, g_mov, e_alloc, g_alloc, e_box, g_box, e_build, g_build, e_load, g_load,
              e_store, g_store, e_bin, g_bin, e_faddr, g_faddr]))
    all_goals (try simp only [*, m_spec_l01Scale, Bool.and_true, Bool.true_and, Bool.and_false, Bool.false_and, Bool.or_true, Bool.true_or, Bool.or_false, Bool.false_or, Bool.not_true, Bool.not_false, Bool.false_eq_true, if_true, if_false, reduceIte, decide_true, decide_false])
    all_goals (try (simp_all; done))
  · cases h
def m_spec_l01Add (x0 : (Nat × Nat × Nat)) (x1 : (Nat × Nat × Nat)) : (Nat × Nat × Nat) := ((fadd .f32 x0.1 x1.1), (fadd .f32 x0.2.1 x1.2.1), (fadd .f32 x0.2.2 x1.2.2))
def g_spec_l01Add : List AV → Option AV
  | [.agg [.flt .f32 y0, .flt .f32 y1, .flt .f32 y2], .agg [.flt .f32 y3, .flt .f32 y4, .flt .f32 y5]] => some (AV.agg [(.flt .f32
      (m_spec_l01Add (y0, y1, y2) (y3, y4, y5)).1), (.flt .f32 (m_spec_l01Add (y0, y1, y2) (y3, y4, y5)).2.1), (.flt .f32 (m_spec_l01Add (y0, y1, y2) (y3, y4, y5)).2.2)])
  | _ => none
def ic77 : ICode := (.seq (.reg [⟨(some 2), none, (.box 3 (.t 0))⟩, ⟨(some 3), none, (.box 3 (.t 1))⟩, ⟨(some 4), none, (.alloc (.agg [(.flt .f32 0), (.flt .f32 0), (.flt .f32
      0)]))⟩] [2, 3, 4]) (.seq (.reg [⟨(some 5), none, (.faddr 0 (.t 2))⟩, ⟨(some 6), none, (.load none (.t 5))⟩, ⟨(some 7), none, (.faddr 0 (.t 3))⟩, ⟨(some 8), none, (.load none
      (.t 7))⟩, ⟨(some 9), none, (.bin .add false (.t 6) (.t 8))⟩, ⟨(some 10), none, (.faddr 1 (.t 2))⟩, ⟨(some 11), none, (.load none (.t 10))⟩, ⟨(some 12), none, (.faddr 1 (.t
      3))⟩, ⟨(some 13), none, (.load none (.t 12))⟩, ⟨(some 14), none, (.bin .add false (.t 11) (.t 13))⟩, ⟨(some 15), none, (.faddr 2 (.t 2))⟩, ⟨(some 16), none, (.load none (.t
      15))⟩, ⟨(some 17), none, (.faddr 2 (.t 3))⟩, ⟨(some 18), none, (.load none (.t 17))⟩, ⟨(some 19), none, (.bin .add false (.t 16) (.t 18))⟩, ⟨(some 20), none, (.build [(.flt
      .f32 0), (.flt .f32 0), (.flt .f32 0)] [(0, 1, (.t 9)), (1, 1, (.t 14)), (2, 1, (.t 19))])⟩, ⟨none, none, (.store 3 (.t 4) (.t 20))⟩] [4]) .ret))
def cp77 : CP := { n := 21, kp := [[2, 3, 4], [4]] }
theorem s77 : ∀ vs r, g_spec_l01Add vs = some r → Says Try.prog 77 vs r := by
  intro vs r h
  unfold g_spec_l01Add at h
  split at h
  · rename_i y0 y1 y2 y3 y4 y5
    cases h
    refine spec_of (tab := tabOf []) (cp := cp77) (ic := ic77) (rvl := [(.c 4 (some 3))]) hm tabOk_nil Try.func77 rfl rfl rfl (by kernel_rfl) rfl (Nat.le_of_ble_eq_true rfl) ?_
    show eA _ _ _ _
    unfold ic77
    simp only [
        eA_seq, eA_reg, eA_ret, eA_skip, eA_cond, eA_block, eA_exit, eCc_true, eCc_false, Kq_normal, Kq_ret, Kq_exit, Kb_normal, Kb_exit, Kb_ret, Kreg_eq, eI_nil, bindSt_some,
              bindSt_none, bindSt_ite, eR_eq, eGI_tt, eGI_ff, eGI_tf, eGI_ft, eop, vop, ev_t, ev_c, ev_f, Option.map, put_some, put_none, set_eq, setH_eq, get_eq, hp_eq, keep_cons,
              keep_nil, lk_cons, lk_nil, startSt, envOf, reduceIte, Nat.reduceEqDiff, Nat.reduceAdd, Nat.zero_add, Nat.add_zero, Nat.reduceMul, Nat.reduceLT, Nat.reduceLeDiff, bop,
              uop, intop, fltop, convop, true_or, or_true, Bool.false_eq_true, ret_ok, ret_normal, outV, rvV, rvs, ex_some, pureV, pureX, pureX.pure1', pure1, Bool.true_and,
              Bool.false_and, Bool.and_true, Bool.and_false, Option.isNone_none, AV.cells, AV.one, storable, laid, refless, refless1, List.all_cons, List.all_nil, List.length_cons,
              List.length_nil, List.getElem?_cons_zero, List.getElem?_cons_succ, List.set_cons_zero, List.set_cons_succ, List.set_nil, List.map_cons, List.map_nil, vload, loadC,
              storeC, vnil, vfaddr, vextract, callTo, List.mapM_cons, List.mapM_nil, Option.pure_def, Option.bind_eq_bind, Option.bind_some, tabOf_cons, flatT, flatE, flatC,
              and_self, and_true, true_and, implies_true, forall_const, not_true_eq_false, not_false_eq_true, false_implies, List.take_succ_cons, List.drop_succ_cons,
              List.take_zero, List.drop_zero, Bool.not_true, Bool.not_false, beq_self_eq_true, decide_true, decide_false, eq_self, Int.reduceEq, Int.reduceLE, Int.reduceLT,
              Bool.not_not, Bool.true_or, Bool.or_true, Bool.false_or, Bool.or_false, if_true, if_false, List.getElem?_nil, Kl_normal, Kl_exit, Kl_ret, bits_i64, cast_lit,
              toNat_lit, Int.reduceAdd, Int.reduceSub, Int.reduceMul, Int.reduceNeg, Int.reducePow, Nat.reducePow, Int.reduceToNat, Nat.reduceSub, Nat.mul_one, Int.toNat_zero,
              prod_eta, List.nil_append, List.cons_append, List.append_nil, vconv, vmm, vidxA, viaddrA, iaddr_sl, iaddr_lsl, getE, vfield, vlen, fillC, fillE, List.replicate,
              elemsOf, List.length_map, f2iK_eq, bits_i64, bits_i32, bits_u64, bits_u32, bits_u8, e_alloc, g_alloc, e_box, g_box, e_build, g_build, e_load, g_load, e_store, g_store,
              e_bin, g_bin, e_faddr, g_faddr]
    repeat' (first
      | ((first | (refine eGI_of (fun h => ?_) (fun h => ?_)) | (refine eCc_of (fun h => ?_) (fun h => ?_))) <;> (try simp only [Bool.not_eq_true', Bool.not_eq_false'] at h) <;> simp only [h,
        eA_seq, eA_reg, eA_ret, eA_skip, eA_cond, eA_block, eA_exit, eCc_true, eCc_false, Kq_normal, Kq_ret, Kq_exit, Kb_normal, Kb_exit, Kb_ret, Kreg_eq, eI_nil, bindSt_some,
              bindSt_none, bindSt_ite, eR_eq, eGI_tt, eGI_ff, eGI_tf, eGI_ft, eop, vop, ev_t, ev_c, ev_f, Option.map, put_some, put_none, set_eq, setH_eq, get_eq, hp_eq, keep_cons,
              keep_nil, lk_cons, lk_nil, startSt, envOf, reduceIte, Nat.reduceEqDiff, Nat.reduceAdd, Nat.zero_add, Nat.add_zero, Nat.reduceMul, Nat.reduceLT, Nat.reduceLeDiff, bop,
              uop, intop, fltop, convop, true_or, or_true, Bool.false_eq_true, ret_ok, ret_normal, outV, rvV, rvs, ex_some, pureV, pureX, pureX.pure1', pure1, Bool.true_and,
              Bool.false_and, Bool.and_true, Bool.and_false, Option.isNone_none, AV.cells, AV.one, storable, laid, refless, refless1, List.all_cons, List.all_nil, List.length_cons,
              List.length_nil, List.getElem?_cons_zero, List.getElem?_cons_succ, List.set_cons_zero, List.set_cons_succ, List.set_nil, List.map_cons, List.map_nil, vload, loadC,
              storeC, vnil, vfaddr, vextract, callTo, List.mapM_cons, List.mapM_nil, Option.pure_def, Option.bind_eq_bind, Option.bind_some, tabOf_cons, flatT, flatE, flatC,
              and_self, and_true, true_and, implies_true, forall_const, not_true_eq_false, not_false_eq_true, false_implies, List.take_succ_cons, List.drop_succ_cons,
              List.take_zero, List.drop_zero, Bool.not_true, Bool.not_false, beq_self_eq_true, decide_true, decide_false, eq_self, Int.reduceEq, Int.reduceLE, Int.reduceLT,
              Bool.not_not, Bool.true_or, Bool.or_true, Bool.false_or, Bool.or_false, if_true, if_false, List.getElem?_nil, Kl_normal, Kl_exit, Kl_ret, bits_i64, cast_lit,
              toNat_lit, Int.reduceAdd, Int.reduceSub, Int.reduceMul, Int.reduceNeg, Int.reducePow, Nat.reducePow, Int.reduceToNat, Nat.reduceSub, Nat.mul_one, Int.toNat_zero,
              prod_eta, List.nil_append, List.cons_append, List.append_nil, vconv, vmm, vidxA, viaddrA, iaddr_sl, iaddr_lsl, getE, vfield, vlen, fillC, fillE, List.replicate,
              elemsOf, List.length_map, f2iK_eq, bits_i64, bits_i32, bits_u64, bits_u32, bits_u8, e_alloc, g_alloc, e_box, g_box, e_build, g_build, e_load, g_load, e_store, g_store,
              e_bin, g_bin, e_faddr, g_faddr]))
    all_goals (try simp only [*, m_spec_l01Add, Bool.and_true, Bool.true_and, Bool.and_false, Bool.false_and, Bool.or_true, Bool.true_or, Bool.or_false, Bool.false_or, Bool.not_true, Bool.not_false, Bool.false_eq_true, if_true, if_false, reduceIte, decide_true, decide_false])
    all_goals (try (simp_all; done))
  · cases h
def m_spec_l04Place (x0 : (Nat × Nat × Nat)) (x1 : (Nat × Nat × Nat)) (x2 : Nat) : (Nat × Nat × Nat) := (if (feq .f32 (m_spec_l01Long (m_spec_l01Less x1 x0)) 0) = true then ((fadd
      .f32 x0.1 x2), x0.2.1, x0.2.2) else (if (m_spec_l01Finite (m_spec_l01Long (m_spec_l01Less x1 x0))) = true then (m_spec_l01Add x0 (m_spec_l01Scale (m_spec_l01Less x1 x0) (fdiv
      .f32 x2 (m_spec_l01Long (m_spec_l01Less x1 x0))))) else ((fadd .f32 x0.1 x2), x0.2.1, x0.2.2)))
def p_spec_l04Place (x0 : (Nat × Nat × Nat)) (x1 : (Nat × Nat × Nat)) (x2 : Nat) : Bool := (p_spec_l01Long (m_spec_l01Less x1 x0))
def g_spec_l04Place : List AV → Option AV
  | [.agg [.flt .f32 y0, .flt .f32 y1, .flt .f32 y2], .agg [.flt .f32 y3, .flt .f32 y4, .flt .f32 y5], .flt .f32 y6] => if p_spec_l04Place
      (y0, y1, y2) (y3, y4, y5) y6 = true then some (AV.agg [(.flt .f32 (m_spec_l04Place (y0, y1, y2) (y3, y4, y5) y6).1), (.flt .f32 (m_spec_l04Place (y0, y1, y2) (y3, y4, y5)
      y6).2.1), (.flt .f32 (m_spec_l04Place (y0, y1, y2) (y3, y4, y5) y6).2.2)]) else none
  | _ => none
def ic63 : ICode := (.seq (.reg [⟨(some 3), none, (.box 3 (.t 0))⟩, ⟨(some 4), none, (.box 3 (.t 1))⟩, ⟨(some 6), none, (.alloc (.agg [(.flt .f32 0), (.flt .f32 0), (.flt .f32
      0)]))⟩] [2, 3, 4, 6]) (.seq (.reg [⟨(some 9), none, (.load (some 3) (.t 4))⟩, ⟨(some 10), none, (.load (some 3) (.t 3))⟩, ⟨(some 11), none, (.call (.fn 70) [(.t 9), (.t 10)]
      [])⟩, ⟨(some 7), none, (.alloc (.agg [(.flt .f32 0), (.flt .f32 0), (.flt .f32 0)]))⟩, ⟨none, none, (.store 3 (.t 7) (.t 11))⟩] [2, 3, 6, 7]) (.seq (.reg [⟨(some 12), none,
      (.load (some 3) (.t 7))⟩, ⟨(some 13), none, (.call (.fn 69) [(.t 12)] [])⟩, ⟨(some 8), none, (.mov (.t 13))⟩] [2, 3, 6, 7, 8]) (.seq (.seq (.reg [⟨(some 14), none, (.mov (.t
      8))⟩, ⟨(some 15), none, (.bin .eql false (.t 14) (.c (.flt .f32 0)))⟩, ⟨(some 16), none, (.mov (.t 15))⟩, ⟨(some 17), (some (16, false)), (.mov (.t 8))⟩, ⟨(some 18), (some
      (16, false)), (.call (.fn 90) [(.t 17)] [])⟩, ⟨(some 19), (some (16, false)), (.un .not (.t 18))⟩, ⟨(some 20), none, (.pick (.t 16) (.c (.bool true)) (.t 19))⟩] [2, 3, 6, 7,
      8, 20]) (.cond (.t 20) (.seq (.reg [⟨(some 21), none, (.faddr 0 (.t 3))⟩, ⟨(some 22), none, (.load none (.t 21))⟩, ⟨(some 23), none, (.mov (.t 2))⟩, ⟨(some 24), none, (.bin
      .add false (.t 22) (.t 23))⟩, ⟨(some 25), none, (.faddr 1 (.t 3))⟩, ⟨(some 26), none, (.load none (.t 25))⟩, ⟨(some 27), none, (.faddr 2 (.t 3))⟩, ⟨(some 28), none, (.load
      none (.t 27))⟩, ⟨(some 29), none, (.build [(.flt .f32 0), (.flt .f32 0), (.flt .f32 0)] [(0, 1, (.t 24)), (1, 1, (.t 26)), (2, 1, (.t 28))])⟩, ⟨none, none, (.store 3 (.t 6)
      (.t 29))⟩] [6]) .ret) .skip)) (.seq (.reg [⟨(some 30), none, (.load (some 3) (.t 3))⟩, ⟨(some 31), none, (.load (some 3) (.t 7))⟩, ⟨(some 32), none, (.mov (.t 2))⟩, ⟨(some
      33), none, (.mov (.t 8))⟩, ⟨(some 34), none, (.bin .quo false (.t 32) (.t 33))⟩, ⟨(some 35), none, (.call (.fn 91) [(.t 31), (.t 34)] [])⟩, ⟨(some 36), none, (.call (.fn 77)
      [(.t 30), (.t 35)] [])⟩, ⟨none, none, (.store 3 (.t 6) (.t 36))⟩] [6]) .ret)))))
def cp63 : CP := { n := 37, kp := [[2, 3, 4, 6], [2, 3, 6, 7], [2, 3, 6, 7, 8], [2, 3, 6, 7, 8, 20], [6], [6]] }
theorem s63 : ∀ vs r, g_spec_l04Place vs = some r → Says Try.prog 63 vs r := by
  intro vs r h
  unfold g_spec_l04Place at h
  split at h
  · rename_i y0 y1 y2 y3 y4 y5 y6
    split at h
    · rename_i hp
      cases h
      refine spec_of (tab := tabOf [(69, g_spec_l01Long), (70, g_spec_l01Less), (77, g_spec_l01Add), (90, g_spec_l01Finite), (91, g_spec_l01Scale)]) (cp := cp63) (ic := ic63) (rvl := [(.c 6 (some 3))]) hm (tabOk_cons s69 (tabOk_cons s70 (tabOk_cons s77 (tabOk_cons s90 (tabOk_cons s91 tabOk_nil))))) Try.func63 rfl rfl rfl (by kernel_rfl) rfl (Nat.le_of_ble_eq_true rfl) ?_
      show eA _ _ _ _
      unfold ic63
      simp only [p_spec_l04Place, Bool.and_eq_true, Bool.or_eq_true, decide_eq_true_eq, Bool.not_eq_true', decide_eq_false_iff_not] at hp
      simp only [
          hp, eA_seq, eA_reg, eA_ret, eA_skip, eA_cond, eA_block, eA_exit, eCc_true, eCc_false, Kq_normal, Kq_ret, Kq_exit, Kb_normal, Kb_exit, Kb_ret, Kreg_eq, eI_nil, bindSt_some,
                bindSt_none, bindSt_ite, eR_eq, eGI_tt, eGI_ff, eGI_tf, eGI_ft, eop, vop, ev_t, ev_c, ev_f, Option.map, put_some, put_none, set_eq, setH_eq, get_eq, hp_eq,
                keep_cons, keep_nil, lk_cons, lk_nil, startSt, envOf, reduceIte, Nat.reduceEqDiff, Nat.reduceAdd, Nat.zero_add, Nat.add_zero, Nat.reduceMul, Nat.reduceLT,
                Nat.reduceLeDiff, bop, uop, intop, fltop, convop, true_or, or_true, Bool.false_eq_true, ret_ok, ret_normal, outV, rvV, rvs, ex_some, pureV, pureX, pureX.pure1',
                pure1, Bool.true_and, Bool.false_and, Bool.and_true, Bool.and_false, Option.isNone_none, AV.cells, AV.one, storable, laid, refless, refless1, List.all_cons,
                List.all_nil, List.length_cons, List.length_nil, List.getElem?_cons_zero, List.getElem?_cons_succ, List.set_cons_zero, List.set_cons_succ, List.set_nil,
                List.map_cons, List.map_nil, vload, loadC, storeC, vnil, vfaddr, vextract, callTo, List.mapM_cons, List.mapM_nil, Option.pure_def, Option.bind_eq_bind,
                Option.bind_some, tabOf_cons, flatT, flatE, flatC, and_self, and_true, true_and, implies_true, forall_const, not_true_eq_false, not_false_eq_true, false_implies,
                List.take_succ_cons, List.drop_succ_cons, List.take_zero, List.drop_zero, Bool.not_true, Bool.not_false, beq_self_eq_true, decide_true, decide_false, eq_self,
                Int.reduceEq, Int.reduceLE, Int.reduceLT, Bool.not_not, Bool.true_or, Bool.or_true, Bool.false_or, Bool.or_false, if_true, if_false, List.getElem?_nil, Kl_normal,
                Kl_exit, Kl_ret, bits_i64, cast_lit, toNat_lit, Int.reduceAdd, Int.reduceSub, Int.reduceMul, Int.reduceNeg, Int.reducePow, Nat.reducePow, Int.reduceToNat,
                Nat.reduceSub, Nat.mul_one, Int.toNat_zero, prod_eta, List.nil_append, List.cons_append, List.append_nil, vconv, vmm, vidxA, viaddrA, iaddr_sl, iaddr_lsl, getE,
                vfield, vlen, fillC, fillE, List.replicate, elemsOf, List.length_map, f2iK_eq, bits_i64, bits_i32, bits_u64, bits_u32, bits_u8, e_mov, g_mov, e_pick, g_pick,
                e_alloc, g_alloc, e_box, g_box, e_build, g_build, e_load, g_load, e_store, g_store, e_bin, g_bin, e_un, g_un, e_faddr, g_faddr, e_call, g_call, g_spec_l01Long,
                g_spec_l01Less, g_spec_l01Add, g_spec_l01Finite, g_spec_l01Scale, ↓b_pick, ePk_true, ePk_false]
      repeat' (first
        | ((first | (refine eGI_of (fun h => ?_) (fun h => ?_)) | (refine eCc_of (fun h => ?_) (fun h => ?_)) | (refine ePk_of (fun h => ?_) (fun h => ?_))) <;> (try simp only [Bool.not_eq_true', Bool.not_eq_false'] at h) <;> (try simp only [h, reduceCtorEq, Bool.not_eq_true', decide_eq_false_iff_not, Bool.not_true, Bool.not_false, Bool.false_or, Bool.true_or, Bool.true_and, Bool.false_and, Bool.and_eq_true, Bool.or_eq_true, if_true, if_false, reduceIte, Bool.false_eq_true, and_true, true_and, false_or, or_false, decide_eq_true_eq, not_false_eq_true, not_true_eq_false] at hp) <;> (try (have h2 := h; simp only [decide_eq_true_eq, decide_eq_false_iff_not] at h2; simp only [h2, if_true, if_false, false_or, true_or, or_true, or_false, and_true, true_and, not_false_eq_true, not_true_eq_false] at hp)) <;> simp only [h,
          hp, eA_seq, eA_reg, eA_ret, eA_skip, eA_cond, eA_block, eA_exit, eCc_true, eCc_false, Kq_normal, Kq_ret, Kq_exit, Kb_normal, Kb_exit, Kb_ret, Kreg_eq, eI_nil, bindSt_some,
                bindSt_none, bindSt_ite, eR_eq, eGI_tt, eGI_ff, eGI_tf, eGI_ft, eop, vop, ev_t, ev_c, ev_f, Option.map, put_some, put_none, set_eq, setH_eq, get_eq, hp_eq,
                keep_cons, keep_nil, lk_cons, lk_nil, startSt, envOf, reduceIte, Nat.reduceEqDiff, Nat.reduceAdd, Nat.zero_add, Nat.add_zero, Nat.reduceMul, Nat.reduceLT,
                Nat.reduceLeDiff, bop, uop, intop, fltop, convop, true_or, or_true, Bool.false_eq_true, ret_ok, ret_normal, outV, rvV, rvs, ex_some, pureV, pureX, pureX.pure1',
                pure1, Bool.true_and, Bool.false_and, Bool.and_true, Bool.and_false, Option.isNone_none, AV.cells, AV.one, storable, laid, refless, refless1, List.all_cons,
                List.all_nil, List.length_cons, List.length_nil, List.getElem?_cons_zero, List.getElem?_cons_succ, List.set_cons_zero, List.set_cons_succ, List.set_nil,
                List.map_cons, List.map_nil, vload, loadC, storeC, vnil, vfaddr, vextract, callTo, List.mapM_cons, List.mapM_nil, Option.pure_def, Option.bind_eq_bind,
                Option.bind_some, tabOf_cons, flatT, flatE, flatC, and_self, and_true, true_and, implies_true, forall_const, not_true_eq_false, not_false_eq_true, false_implies,
                List.take_succ_cons, List.drop_succ_cons, List.take_zero, List.drop_zero, Bool.not_true, Bool.not_false, beq_self_eq_true, decide_true, decide_false, eq_self,
                Int.reduceEq, Int.reduceLE, Int.reduceLT, Bool.not_not, Bool.true_or, Bool.or_true, Bool.false_or, Bool.or_false, if_true, if_false, List.getElem?_nil, Kl_normal,
                Kl_exit, Kl_ret, bits_i64, cast_lit, toNat_lit, Int.reduceAdd, Int.reduceSub, Int.reduceMul, Int.reduceNeg, Int.reducePow, Nat.reducePow, Int.reduceToNat,
                Nat.reduceSub, Nat.mul_one, Int.toNat_zero, prod_eta, List.nil_append, List.cons_append, List.append_nil, vconv, vmm, vidxA, viaddrA, iaddr_sl, iaddr_lsl, getE,
                vfield, vlen, fillC, fillE, List.replicate, elemsOf, List.length_map, f2iK_eq, bits_i64, bits_i32, bits_u64, bits_u32, bits_u8, e_mov, g_mov, e_pick, g_pick,
                e_alloc, g_alloc, e_box, g_box, e_build, g_build, e_load, g_load, e_store, g_store, e_bin, g_bin, e_un, g_un, e_faddr, g_faddr, e_call, g_call, g_spec_l01Long,
                g_spec_l01Less, g_spec_l01Add, g_spec_l01Finite, g_spec_l01Scale, ↓b_pick, ePk_true, ePk_false]))
      all_goals (try simp only [*, m_spec_l04Place, Bool.and_true, Bool.true_and, Bool.and_false, Bool.false_and, Bool.or_true, Bool.true_or, Bool.or_false, Bool.false_or, Bool.not_true, Bool.not_false, Bool.false_eq_true, if_true, if_false, reduceIte, decide_true, decide_false])
      all_goals (try (simp_all; done))
    · cases h
  · cases h
def m_spec_StepTowards (x0 : (Nat × Nat × Nat)) (x1 : (Nat × Nat × Nat)) (x2 : Nat) : (Nat × Nat × Nat) := (if (fle .f32 (m_spec_l01Long (m_spec_l01Less x1 x0)) x2) = true then x1
      else (m_spec_l04Place x0 x1 x2))
def p_spec_StepTowards (x0 : (Nat × Nat × Nat)) (x1 : (Nat × Nat × Nat)) (x2 : Nat) : Bool := ((p_spec_l01Long (m_spec_l01Less x1 x0)) && ((fle .f32 (m_spec_l01Long (m_spec_l01Less
      x1 x0)) x2) || (p_spec_l04Place x0 x1 x2)))
def g_spec_StepTowards : List AV → Option AV
  | [.agg [.flt .f32 y0, .flt .f32 y1, .flt .f32 y2], .agg [.flt .f32 y3, .flt .f32 y4, .flt .f32 y5], .flt .f32 y6] => if
      p_spec_StepTowards (y0, y1, y2) (y3, y4, y5) y6 = true then some (AV.agg [(.flt .f32 (m_spec_StepTowards (y0, y1, y2) (y3, y4, y5) y6).1), (.flt .f32 (m_spec_StepTowards (y0,
      y1, y2) (y3, y4, y5) y6).2.1), (.flt .f32 (m_spec_StepTowards (y0, y1, y2) (y3, y4, y5) y6).2.2)]) else none
  | _ => none
def ic41 : ICode := (.seq (.reg [⟨(some 3), none, (.box 3 (.t 0))⟩, ⟨(some 4), none, (.box 3 (.t 1))⟩, ⟨(some 6), none, (.alloc (.agg [(.flt .f32 0), (.flt .f32 0), (.flt .f32
      0)]))⟩] [2, 3, 4, 6]) (.seq (.seq (.reg [⟨(some 7), none, (.load (some 3) (.t 4))⟩, ⟨(some 8), none, (.load (some 3) (.t 3))⟩, ⟨(some 9), none, (.call (.fn 70) [(.t 7), (.t
      8)] [])⟩, ⟨(some 10), none, (.call (.fn 69) [(.t 9)] [])⟩, ⟨(some 11), none, (.mov (.t 2))⟩, ⟨(some 12), none, (.bin .leq false (.t 10) (.t 11))⟩] [2, 3, 4, 6, 12]) (.cond (.t
      12) (.seq (.reg [⟨(some 13), none, (.load (some 3) (.t 4))⟩, ⟨none, none, (.store 3 (.t 6) (.t 13))⟩] [6]) .ret) .skip)) (.seq (.reg [⟨(some 14), none, (.load (some 3) (.t
      3))⟩, ⟨(some 15), none, (.load (some 3) (.t 4))⟩, ⟨(some 16), none, (.mov (.t 2))⟩, ⟨(some 17), none, (.call (.fn 63) [(.t 14), (.t 15), (.t 16)] [])⟩, ⟨none, none, (.store 3
      (.t 6) (.t 17))⟩] [6]) .ret)))
def cp41 : CP := { n := 18, kp := [[2, 3, 4, 6], [2, 3, 4, 6, 12], [6], [6]] }
theorem s41 : ∀ vs r, g_spec_StepTowards vs = some r → Says Try.prog 41 vs r := by
  intro vs r h
  unfold g_spec_StepTowards at h
  split at h
  · rename_i y0 y1 y2 y3 y4 y5 y6
    split at h
    · rename_i hp
      cases h
      refine spec_of (tab := tabOf [(63, g_spec_l04Place), (69, g_spec_l01Long), (70, g_spec_l01Less)]) (cp := cp41) (ic := ic41) (rvl := [(.c 6 (some 3))]) hm (tabOk_cons s63 (tabOk_cons s69 (tabOk_cons s70 tabOk_nil))) Try.func41 rfl rfl rfl (by kernel_rfl) rfl (Nat.le_of_ble_eq_true rfl) ?_
      show eA _ _ _ _
      unfold ic41
      simp only [p_spec_StepTowards, Bool.and_eq_true, Bool.or_eq_true, decide_eq_true_eq, Bool.not_eq_true', decide_eq_false_iff_not] at hp
      simp only [
          hp, eA_seq, eA_reg, eA_ret, eA_skip, eA_cond, eA_block, eA_exit, eCc_true, eCc_false, Kq_normal, Kq_ret, Kq_exit, Kb_normal, Kb_exit, Kb_ret, Kreg_eq, eI_nil, bindSt_some,
                bindSt_none, bindSt_ite, eR_eq, eGI_tt, eGI_ff, eGI_tf, eGI_ft, eop, vop, ev_t, ev_c, ev_f, Option.map, put_some, put_none, set_eq, setH_eq, get_eq, hp_eq,
                keep_cons, keep_nil, lk_cons, lk_nil, startSt, envOf, reduceIte, Nat.reduceEqDiff, Nat.reduceAdd, Nat.zero_add, Nat.add_zero, Nat.reduceMul, Nat.reduceLT,
                Nat.reduceLeDiff, bop, uop, intop, fltop, convop, true_or, or_true, Bool.false_eq_true, ret_ok, ret_normal, outV, rvV, rvs, ex_some, pureV, pureX, pureX.pure1',
                pure1, Bool.true_and, Bool.false_and, Bool.and_true, Bool.and_false, Option.isNone_none, AV.cells, AV.one, storable, laid, refless, refless1, List.all_cons,
                List.all_nil, List.length_cons, List.length_nil, List.getElem?_cons_zero, List.getElem?_cons_succ, List.set_cons_zero, List.set_cons_succ, List.set_nil,
                List.map_cons, List.map_nil, vload, loadC, storeC, vnil, vfaddr, vextract, callTo, List.mapM_cons, List.mapM_nil, Option.pure_def, Option.bind_eq_bind,
                Option.bind_some, tabOf_cons, flatT, flatE, flatC, and_self, and_true, true_and, implies_true, forall_const, not_true_eq_false, not_false_eq_true, false_implies,
                List.take_succ_cons, List.drop_succ_cons, List.take_zero, List.drop_zero, Bool.not_true, Bool.not_false, beq_self_eq_true, decide_true, decide_false, eq_self,
                Int.reduceEq, Int.reduceLE, Int.reduceLT, Bool.not_not, Bool.true_or, Bool.or_true, Bool.false_or, Bool.or_false, if_true, if_false, List.getElem?_nil, Kl_normal,
                Kl_exit, Kl_ret, bits_i64, cast_lit, toNat_lit, Int.reduceAdd, Int.reduceSub, Int.reduceMul, Int.reduceNeg, Int.reducePow, Nat.reducePow, Int.reduceToNat,
                Nat.reduceSub, Nat.mul_one, Int.toNat_zero, prod_eta, List.nil_append, List.cons_append, List.append_nil, vconv, vmm, vidxA, viaddrA, iaddr_sl, iaddr_lsl, getE,
                vfield, vlen, fillC, fillE, List.replicate, elemsOf, List.length_map, f2iK_eq, bits_i64, bits_i32, bits_u64, bits_u32, bits_u8, e_mov, g_mov, e_alloc, g_alloc,
                e_box, g_box, e_load, g_load, e_store, g_store, e_bin, g_bin, e_call, g_call, g_spec_l04Place, g_spec_l01Long, g_spec_l01Less]
      repeat' (first
        | ((first | (refine eGI_of (fun h => ?_) (fun h => ?_)) | (refine eCc_of (fun h => ?_) (fun h => ?_))) <;> (try simp only [Bool.not_eq_true', Bool.not_eq_false'] at h) <;> (try simp only [h, reduceCtorEq, Bool.not_eq_true', decide_eq_false_iff_not, Bool.not_true, Bool.not_false, Bool.false_or, Bool.true_or, Bool.true_and, Bool.false_and, Bool.and_eq_true, Bool.or_eq_true, if_true, if_false, reduceIte, Bool.false_eq_true, and_true, true_and, false_or, or_false, decide_eq_true_eq, not_false_eq_true, not_true_eq_false] at hp) <;> (try (have h2 := h; simp only [decide_eq_true_eq, decide_eq_false_iff_not] at h2; simp only [h2, if_true, if_false, false_or, true_or, or_true, or_false, and_true, true_and, not_false_eq_true, not_true_eq_false] at hp)) <;> simp only [h,
          hp, eA_seq, eA_reg, eA_ret, eA_skip, eA_cond, eA_block, eA_exit, eCc_true, eCc_false, Kq_normal, Kq_ret, Kq_exit, Kb_normal, Kb_exit, Kb_ret, Kreg_eq, eI_nil, bindSt_some,
                bindSt_none, bindSt_ite, eR_eq, eGI_tt, eGI_ff, eGI_tf, eGI_ft, eop, vop, ev_t, ev_c, ev_f, Option.map, put_some, put_none, set_eq, setH_eq, get_eq, hp_eq,
                keep_cons, keep_nil, lk_cons, lk_nil, startSt, envOf, reduceIte, Nat.reduceEqDiff, Nat.reduceAdd, Nat.zero_add, Nat.add_zero, Nat.reduceMul, Nat.reduceLT,
                Nat.reduceLeDiff, bop, uop, intop, fltop, convop, true_or, or_true, Bool.false_eq_true, ret_ok, ret_normal, outV, rvV, rvs, ex_some, pureV, pureX, pureX.pure1',
                pure1, Bool.true_and, Bool.false_and, Bool.and_true, Bool.and_false, Option.isNone_none, AV.cells, AV.one, storable, laid, refless, refless1, List.all_cons,
                List.all_nil, List.length_cons, List.length_nil, List.getElem?_cons_zero, List.getElem?_cons_succ, List.set_cons_zero, List.set_cons_succ, List.set_nil,
                List.map_cons, List.map_nil, vload, loadC, storeC, vnil, vfaddr, vextract, callTo, List.mapM_cons, List.mapM_nil, Option.pure_def, Option.bind_eq_bind,
                Option.bind_some, tabOf_cons, flatT, flatE, flatC, and_self, and_true, true_and, implies_true, forall_const, not_true_eq_false, not_false_eq_true, false_implies,
                List.take_succ_cons, List.drop_succ_cons, List.take_zero, List.drop_zero, Bool.not_true, Bool.not_false, beq_self_eq_true, decide_true, decide_false, eq_self,
                Int.reduceEq, Int.reduceLE, Int.reduceLT, Bool.not_not, Bool.true_or, Bool.or_true, Bool.false_or, Bool.or_false, if_true, if_false, List.getElem?_nil, Kl_normal,
                Kl_exit, Kl_ret, bits_i64, cast_lit, toNat_lit, Int.reduceAdd, Int.reduceSub, Int.reduceMul, Int.reduceNeg, Int.reducePow, Nat.reducePow, Int.reduceToNat,
                Nat.reduceSub, Nat.mul_one, Int.toNat_zero, prod_eta, List.nil_append, List.cons_append, List.append_nil, vconv, vmm, vidxA, viaddrA, iaddr_sl, iaddr_lsl, getE,
                vfield, vlen, fillC, fillE, List.replicate, elemsOf, List.length_map, f2iK_eq, bits_i64, bits_i32, bits_u64, bits_u32, bits_u8, e_mov, g_mov, e_alloc, g_alloc,
                e_box, g_box, e_load, g_load, e_store, g_store, e_bin, g_bin, e_call, g_call, g_spec_l04Place, g_spec_l01Long, g_spec_l01Less]))
      all_goals (try simp only [*, m_spec_StepTowards, Bool.and_true, Bool.true_and, Bool.and_false, Bool.false_and, Bool.or_true, Bool.true_or, Bool.or_false, Bool.false_or, Bool.not_true, Bool.not_false, Bool.false_eq_true, if_true, if_false, reduceIte, decide_true, decide_false])
      all_goals (try (simp_all; done))
    · cases h
  · cases h
def m_impl_LessVectors (x0 : (Nat × Nat × Nat)) (x1 : (Nat × Nat × Nat)) : (Nat × Nat × Nat) := ((fsub .f32 x0.1 x1.1), (fsub .f32 x0.2.1 x1.2.1), (fsub .f32 x0.2.2 x1.2.2))
def g_impl_LessVectors : List AV → Option AV
  | [.agg [.flt .f32 y0, .flt .f32 y1, .flt .f32 y2], .agg [.flt .f32 y3, .flt .f32 y4, .flt .f32 y5]] => some (AV.agg [(.flt .f32
      (m_impl_LessVectors (y0, y1, y2) (y3, y4, y5)).1), (.flt .f32 (m_impl_LessVectors (y0, y1, y2) (y3, y4, y5)).2.1), (.flt .f32 (m_impl_LessVectors (y0, y1, y2) (y3, y4,
      y5)).2.2)])
  | _ => none
def ic64 : ICode := (.seq (.reg [⟨(some 2), none, (.box 3 (.t 0))⟩, ⟨(some 3), none, (.box 3 (.t 1))⟩, ⟨(some 4), none, (.alloc (.agg [(.flt .f32 0), (.flt .f32 0), (.flt .f32
      0)]))⟩] [2, 3, 4]) (.seq (.reg [⟨(some 5), none, (.faddr 0 (.t 2))⟩, ⟨(some 6), none, (.load none (.t 5))⟩, ⟨(some 7), none, (.faddr 0 (.t 3))⟩, ⟨(some 8), none, (.load none
      (.t 7))⟩, ⟨(some 9), none, (.bin .sub false (.t 6) (.t 8))⟩, ⟨(some 10), none, (.faddr 1 (.t 2))⟩, ⟨(some 11), none, (.load none (.t 10))⟩, ⟨(some 12), none, (.faddr 1 (.t
      3))⟩, ⟨(some 13), none, (.load none (.t 12))⟩, ⟨(some 14), none, (.bin .sub false (.t 11) (.t 13))⟩, ⟨(some 15), none, (.faddr 2 (.t 2))⟩, ⟨(some 16), none, (.load none (.t
      15))⟩, ⟨(some 17), none, (.faddr 2 (.t 3))⟩, ⟨(some 18), none, (.load none (.t 17))⟩, ⟨(some 19), none, (.bin .sub false (.t 16) (.t 18))⟩, ⟨(some 20), none, (.build [(.flt
      .f32 0), (.flt .f32 0), (.flt .f32 0)] [(0, 1, (.t 9)), (1, 1, (.t 14)), (2, 1, (.t 19))])⟩, ⟨none, none, (.store 3 (.t 4) (.t 20))⟩] [4]) .ret))
def cp64 : CP := { n := 21, kp := [[2, 3, 4], [4]] }
theorem s64 : ∀ vs r, g_impl_LessVectors vs = some r → Says Try.prog 64 vs r := by
  intro vs r h
  unfold g_impl_LessVectors at h
  split at h
  · rename_i y0 y1 y2 y3 y4 y5
    cases h
    refine spec_of (tab := tabOf []) (cp := cp64) (ic := ic64) (rvl := [(.c 4 (some 3))]) hm tabOk_nil Try.func64 rfl rfl rfl (by kernel_rfl) rfl (Nat.le_of_ble_eq_true rfl) ?_
    show eA _ _ _ _
    unfold ic64
    simp only [
        eA_seq, eA_reg, eA_ret, eA_skip, eA_cond, eA_block, eA_exit, eCc_true, eCc_false, Kq_normal, Kq_ret, Kq_exit, Kb_normal, Kb_exit, Kb_ret, Kreg_eq, eI_nil, bindSt_some,
              bindSt_none, bindSt_ite, eR_eq, eGI_tt, eGI_ff, eGI_tf, eGI_ft, eop, vop, ev_t, ev_c, ev_f, Option.map, put_some, put_none, set_eq, setH_eq, get_eq, hp_eq, keep_cons,
              keep_nil, lk_cons, lk_nil, startSt, envOf, reduceIte, Nat.reduceEqDiff, Nat.reduceAdd, Nat.zero_add, Nat.add_zero, Nat.reduceMul, Nat.reduceLT, Nat.reduceLeDiff, bop,
              uop, intop, fltop, convop, true_or, or_true, Bool.false_eq_true, ret_ok, ret_normal, outV, rvV, rvs, ex_some, pureV, pureX, pureX.pure1', pure1, Bool.true_and,
              Bool.false_and, Bool.and_true, Bool.and_false, Option.isNone_none, AV.cells, AV.one, storable, laid, refless, refless1, List.all_cons, List.all_nil, List.length_cons,
              List.length_nil, List.getElem?_cons_zero, List.getElem?_cons_succ, List.set_cons_zero, List.set_cons_succ, List.set_nil, List.map_cons, List.map_nil, vload, loadC,
              storeC, vnil, vfaddr, vextract, callTo, List.mapM_cons, List.mapM_nil, Option.pure_def, Option.bind_eq_bind, Option.bind_some, tabOf_cons, flatT, flatE, flatC,
              and_self, and_true, true_and, implies_true, forall_const, not_true_eq_false, not_false_eq_true, false_implies, List.take_succ_cons, List.drop_succ_cons,
              List.take_zero, List.drop_zero, Bool.not_true, Bool.not_false, beq_self_eq_true, decide_true, decide_false, eq_self, Int.reduceEq, Int.reduceLE, Int.reduceLT,
              Bool.not_not, Bool.true_or, Bool.or_true, Bool.false_or, Bool.or_false, if_true, if_false, List.getElem?_nil, Kl_normal, Kl_exit, Kl_ret, bits_i64, cast_lit,
              toNat_lit, Int.reduceAdd, Int.reduceSub, Int.reduceMul, Int.reduceNeg, Int.reducePow, Nat.reducePow, Int.reduceToNat, Nat.reduceSub, Nat.mul_one, Int.toNat_zero,
              prod_eta, List.nil_append, List.cons_append, List.append_nil, vconv, vmm, vidxA, viaddrA, iaddr_sl, iaddr_lsl, getE, vfield, vlen, fillC, fillE, List.replicate,
              elemsOf, List.length_map, f2iK_eq, bits_i64, bits_i32, bits_u64, bits_u32, bits_u8, e_alloc, g_alloc, e_box, g_box, e_build, g_build, e_load, g_load, e_store, g_store,
              e_bin, g_bin, e_faddr, g_faddr]
    repeat' (first
      | ((first | (refine eGI_of (fun h => ?_) (fun h => ?_)) | (refine eCc_of (fun h => ?_) (fun h => ?_))) <;> (try simp only [Bool.not_eq_true', Bool.not_eq_false'] at h) <;> simp only [h,
        eA_seq, eA_reg, eA_ret, eA_skip, eA_cond, eA_block, eA_exit, eCc_true, eCc_false, Kq_normal, Kq_ret, Kq_exit, Kb_normal, Kb_exit, Kb_ret, Kreg_eq, eI_nil, bindSt_some,
              bindSt_none, bindSt_ite, eR_eq, eGI_tt, eGI_ff, eGI_tf, eGI_ft, eop, vop, ev_t, ev_c, ev_f, Option.map, put_some, put_none, set_eq, setH_eq, get_eq, hp_eq, keep_cons,
              keep_nil, lk_cons, lk_nil, startSt, envOf, reduceIte, Nat.reduceEqDiff, Nat.reduceAdd, Nat.zero_add, Nat.add_zero, Nat.reduceMul, Nat.reduceLT, Nat.reduceLeDiff, bop,
              uop, intop, fltop, convop, true_or, or_true, Bool.false_eq_true, ret_ok, ret_normal, outV, rvV, rvs, ex_some, pureV, pureX, pureX.pure1', pure1, Bool.true_and,
              Bool.false_and, Bool.and_true, Bool.and_false, Option.isNone_none, AV.cells, AV.one, storable, laid, refless, refless1, List.all_cons, List.all_nil, List.length_cons,
              List.length_nil, List.getElem?_cons_zero, List.getElem?_cons_succ, List.set_cons_zero, List.set_cons_succ, List.set_nil, List.map_cons, List.map_nil, vload, loadC,
              storeC, vnil, vfaddr, vextract, callTo, List.mapM_cons, List.mapM_nil, Option.pure_def, Option.bind_eq_bind, Option.bind_some, tabOf_cons, flatT, flatE, flatC,
              and_self, and_true, true_and, implies_true, forall_const, not_true_eq_false, not_false_eq_true, false_implies, List.take_succ_cons, List.drop_succ_cons,
              List.take_zero, List.drop_zero, Bool.not_true, Bool.not_false, beq_self_eq_true, decide_true, decide_false, eq_self, Int.reduceEq, Int.reduceLE, Int.reduceLT,
              Bool.not_not, Bool.true_or, Bool.or_true, Bool.false_or, Bool.or_false, if_true, if_false, List.getElem?_nil, Kl_normal, Kl_exit, Kl_ret, bits_i64, cast_lit,
              toNat_lit, Int.reduceAdd, Int.reduceSub, Int.reduceMul, Int.reduceNeg, Int.reducePow, Nat.reducePow, Int.reduceToNat, Nat.reduceSub, Nat.mul_one, Int.toNat_zero,
              prod_eta, List.nil_append, List.cons_append, List.append_nil, vconv, vmm, vidxA, viaddrA, iaddr_sl, iaddr_lsl, getE, vfield, vlen, fillC, fillE, List.replicate,
              elemsOf, List.length_map, f2iK_eq, bits_i64, bits_i32, bits_u64, bits_u32, bits_u8, e_alloc, g_alloc, e_box, g_box, e_build, g_build, e_load, g_load, e_store, g_store,
              e_bin, g_bin, e_faddr, g_faddr]))
    all_goals (try simp only [*, m_impl_LessVectors, Bool.and_true, Bool.true_and, Bool.and_false, Bool.false_and, Bool.or_true, Bool.true_or, Bool.or_false, Bool.false_or, Bool.not_true, Bool.not_false, Bool.false_eq_true, if_true, if_false, reduceIte, decide_true, decide_false])
    all_goals (try (simp_all; done))
  · cases h
def m_impl_InnerOf (x0 : (Nat × Nat × Nat)) (x1 : (Nat × Nat × Nat)) : Nat := (fadd .f32 (fadd .f32 (fmul .f32 x0.1 x1.1) (fmul .f32 x0.2.1 x1.2.1)) (fmul .f32 x0.2.2 x1.2.2))
def g_impl_InnerOf : List AV → Option AV
  | [.agg [.flt .f32 y0, .flt .f32 y1, .flt .f32 y2], .agg [.flt .f32 y3, .flt .f32 y4, .flt .f32 y5]] => some (.flt .f32 (m_impl_InnerOf
      (y0, y1, y2) (y3, y4, y5)))
  | _ => none
def ic93 : ICode := (.seq (.reg [⟨(some 2), none, (.box 3 (.t 0))⟩, ⟨(some 3), none, (.box 3 (.t 1))⟩, ⟨(some 4), none, (.mov (.c (.flt .f32 0)))⟩] [2, 3]) (.seq (.reg [⟨(some 5),
      none, (.faddr 0 (.t 2))⟩, ⟨(some 6), none, (.load none (.t 5))⟩, ⟨(some 7), none, (.faddr 0 (.t 3))⟩, ⟨(some 8), none, (.load none (.t 7))⟩, ⟨(some 9), none, (.bin .mul false
      (.t 6) (.t 8))⟩, ⟨(some 10), none, (.faddr 1 (.t 2))⟩, ⟨(some 11), none, (.load none (.t 10))⟩, ⟨(some 12), none, (.faddr 1 (.t 3))⟩, ⟨(some 13), none, (.load none (.t 12))⟩,
      ⟨(some 14), none, (.bin .mul false (.t 11) (.t 13))⟩, ⟨(some 15), none, (.bin .add false (.t 9) (.t 14))⟩, ⟨(some 16), none, (.faddr 2 (.t 2))⟩, ⟨(some 17), none, (.load none
      (.t 16))⟩, ⟨(some 18), none, (.faddr 2 (.t 3))⟩, ⟨(some 19), none, (.load none (.t 18))⟩, ⟨(some 20), none, (.bin .mul false (.t 17) (.t 19))⟩, ⟨(some 21), none, (.bin .add
      false (.t 15) (.t 20))⟩, ⟨(some 4), none, (.mov (.t 21))⟩] [4]) .ret))
def cp93 : CP := { n := 22, kp := [[2, 3], [4]] }
theorem s93 : ∀ vs r, g_impl_InnerOf vs = some r → Says Try.prog 93 vs r := by
  intro vs r h
  unfold g_impl_InnerOf at h
  split at h
  · rename_i y0 y1 y2 y3 y4 y5
    cases h
    refine spec_of (tab := tabOf []) (cp := cp93) (ic := ic93) (rvl := [(.t 4)]) hm tabOk_nil Try.func93 rfl rfl rfl (by kernel_rfl) rfl (Nat.le_of_ble_eq_true rfl) ?_
    show eA _ _ _ _
    unfold ic93
    simp only [
        eA_seq, eA_reg, eA_ret, eA_skip, eA_cond, eA_block, eA_exit, eCc_true, eCc_false, Kq_normal, Kq_ret, Kq_exit, Kb_normal, Kb_exit, Kb_ret, Kreg_eq, eI_nil, bindSt_some,
              bindSt_none, bindSt_ite, eR_eq, eGI_tt, eGI_ff, eGI_tf, eGI_ft, eop, vop, ev_t, ev_c, ev_f, Option.map, put_some, put_none, set_eq, setH_eq, get_eq, hp_eq, keep_cons,
              keep_nil, lk_cons, lk_nil, startSt, envOf, reduceIte, Nat.reduceEqDiff, Nat.reduceAdd, Nat.zero_add, Nat.add_zero, Nat.reduceMul, Nat.reduceLT, Nat.reduceLeDiff, bop,
              uop, intop, fltop, convop, true_or, or_true, Bool.false_eq_true, ret_ok, ret_normal, outV, rvV, rvs, ex_some, pureV, pureX, pureX.pure1', pure1, Bool.true_and,
              Bool.false_and, Bool.and_true, Bool.and_false, Option.isNone_none, AV.cells, AV.one, storable, laid, refless, refless1, List.all_cons, List.all_nil, List.length_cons,
              List.length_nil, List.getElem?_cons_zero, List.getElem?_cons_succ, List.set_cons_zero, List.set_cons_succ, List.set_nil, List.map_cons, List.map_nil, vload, loadC,
              storeC, vnil, vfaddr, vextract, callTo, List.mapM_cons, List.mapM_nil, Option.pure_def, Option.bind_eq_bind, Option.bind_some, tabOf_cons, flatT, flatE, flatC,
              and_self, and_true, true_and, implies_true, forall_const, not_true_eq_false, not_false_eq_true, false_implies, List.take_succ_cons, List.drop_succ_cons,
              List.take_zero, List.drop_zero, Bool.not_true, Bool.not_false, beq_self_eq_true, decide_true, decide_false, eq_self, Int.reduceEq, Int.reduceLE, Int.reduceLT,
              Bool.not_not, Bool.true_or, Bool.or_true, Bool.false_or, Bool.or_false, if_true, if_false, List.getElem?_nil, Kl_normal, Kl_exit, Kl_ret, bits_i64, cast_lit,
              toNat_lit, Int.reduceAdd, Int.reduceSub, Int.reduceMul, Int.reduceNeg, Int.reducePow, Nat.reducePow, Int.reduceToNat, Nat.reduceSub, Nat.mul_one, Int.toNat_zero,
              prod_eta, List.nil_append, List.cons_append, List.append_nil, vconv, vmm, vidxA, viaddrA, iaddr_sl, iaddr_lsl, getE, vfield, vlen, fillC, fillE, List.replicate,
              elemsOf, List.length_map, f2iK_eq, bits_i64, bits_i32, bits_u64, bits_u32, bits_u8, e_mov, g_mov, e_box, g_box, e_load, g_load, e_bin, g_bin, e_faddr, g_faddr]
    repeat' (first
      | ((first | (refine eGI_of (fun h => ?_) (fun h => ?_)) | (refine eCc_of (fun h => ?_) (fun h => ?_))) <;> (try simp only [Bool.not_eq_true', Bool.not_eq_false'] at h) <;> simp only [h,
        eA_seq, eA_reg, eA_ret, eA_skip, eA_cond, eA_block, eA_exit, eCc_true, eCc_false, Kq_normal, Kq_ret, Kq_exit, Kb_normal, Kb_exit, Kb_ret, Kreg_eq, eI_nil, bindSt_some,
              bindSt_none, bindSt_ite, eR_eq, eGI_tt, eGI_ff, eGI_tf, eGI_ft, eop, vop, ev_t, ev_c, ev_f, Option.map, put_some, put_none, set_eq, setH_eq, get_eq, hp_eq, keep_cons,
              keep_nil, lk_cons, lk_nil, startSt, envOf, reduceIte, Nat.reduceEqDiff, Nat.reduceAdd, Nat.zero_add, Nat.add_zero, Nat.reduceMul, Nat.reduceLT, Nat.reduceLeDiff, bop,
              uop, intop, fltop, convop, true_or, or_true, Bool.false_eq_true, ret_ok, ret_normal, outV, rvV, rvs, ex_some, pureV, pureX, pureX.pure1', pure1, Bool.true_and,
              Bool.false_and, Bool.and_true, Bool.and_false, Option.isNone_none, AV.cells, AV.one, storable, laid, refless, refless1, List.all_cons, List.all_nil, List.length_cons,
              List.length_nil, List.getElem?_cons_zero, List.getElem?_cons_succ, List.set_cons_zero, List.set_cons_succ, List.set_nil, List.map_cons, List.map_nil, vload, loadC,
              storeC, vnil, vfaddr, vextract, callTo, List.mapM_cons, List.mapM_nil, Option.pure_def, Option.bind_eq_bind, Option.bind_some, tabOf_cons, flatT, flatE, flatC,
              and_self, and_true, true_and, implies_true, forall_const, not_true_eq_false, not_false_eq_true, false_implies, List.take_succ_cons, List.drop_succ_cons,
              List.take_zero, List.drop_zero, Bool.not_true, Bool.not_false, beq_self_eq_true, decide_true, decide_false, eq_self, Int.reduceEq, Int.reduceLE, Int.reduceLT,
              Bool.not_not, Bool.true_or, Bool.or_true, Bool.false_or, Bool.or_false, if_true, if_false, List.getElem?_nil, Kl_normal, Kl_exit, Kl_ret, bits_i64, cast_lit,
              toNat_lit, Int.reduceAdd, Int.reduceSub, Int.reduceMul, Int.reduceNeg, Int.reducePow, Nat.reducePow, Int.reduceToNat, Nat.reduceSub, Nat.mul_one, Int.toNat_zero,
              prod_eta, List.nil_append, List.cons_append, List.append_nil, vconv, vmm, vidxA, viaddrA, iaddr_sl, iaddr_lsl, getE, vfield, vlen, fillC, fillE, List.replicate,
              elemsOf, List.length_map, f2iK_eq, bits_i64, bits_i32, bits_u64, bits_u32, bits_u8, e_mov, g_mov, e_box, g_box, e_load, g_load, e_bin, g_bin, e_faddr, g_faddr]))
    all_goals (try simp only [*, m_impl_InnerOf, Bool.and_true, Bool.true_and, Bool.and_false, Bool.false_and, Bool.or_true, Bool.true_or, Bool.or_false, Bool.false_or, Bool.not_true, Bool.not_false, Bool.false_eq_true, if_true, if_false, reduceIte, decide_true, decide_false])
    all_goals (try (simp_all; done))
  · cases h
def m_impl_RootNumber (x0 : Nat) : Nat := (narrow (m_math_Sqrt (widen x0)))
def p_impl_RootNumber (x0 : Nat) : Bool := (narrowOk (m_math_Sqrt (widen x0)))
def g_impl_RootNumber : List AV → Option AV
  | [.flt .f32 y0] => if p_impl_RootNumber y0 = true then some (.flt .f32 (m_impl_RootNumber y0)) else none
  | _ => none
def ic92 : ICode := (.seq (.reg [⟨(some 2), none, (.mov (.c (.flt .f32 0)))⟩] [0]) (.seq (.reg [⟨(some 3), none, (.mov (.t 0))⟩, ⟨(some 4), none, (.conv (.flt .f64) (.t 3))⟩, ⟨(some
      5), none, (.call (.fn 104) [(.t 4)] [])⟩, ⟨(some 6), none, (.conv (.flt .f32) (.t 5))⟩, ⟨(some 2), none, (.mov (.t 6))⟩] [2]) .ret))
def cp92 : CP := { n := 7, kp := [[0], [2]] }
theorem s92 : ∀ vs r, g_impl_RootNumber vs = some r → Says Try.prog 92 vs r := by
  intro vs r h
  unfold g_impl_RootNumber at h
  split at h
  · rename_i y0
    split at h
    · rename_i hp
      cases h
      refine spec_of (tab := tabOf [(104, g_math_Sqrt)]) (cp := cp92) (ic := ic92) (rvl := [(.t 2)]) hm (tabOk_cons s104 tabOk_nil) Try.func92 rfl rfl rfl (by kernel_rfl) rfl (Nat.le_of_ble_eq_true rfl) ?_
      show eA _ _ _ _
      unfold ic92
      simp only [p_impl_RootNumber, Bool.and_eq_true, Bool.or_eq_true, decide_eq_true_eq, Bool.not_eq_true', decide_eq_false_iff_not] at hp
      simp only [
          hp, eA_seq, eA_reg, eA_ret, eA_skip, eA_cond, eA_block, eA_exit, eCc_true, eCc_false, Kq_normal, Kq_ret, Kq_exit, Kb_normal, Kb_exit, Kb_ret, Kreg_eq, eI_nil, bindSt_some,
                bindSt_none, bindSt_ite, eR_eq, eGI_tt, eGI_ff, eGI_tf, eGI_ft, eop, vop, ev_t, ev_c, ev_f, Option.map, put_some, put_none, set_eq, setH_eq, get_eq, hp_eq,
                keep_cons, keep_nil, lk_cons, lk_nil, startSt, envOf, reduceIte, Nat.reduceEqDiff, Nat.reduceAdd, Nat.zero_add, Nat.add_zero, Nat.reduceMul, Nat.reduceLT,
                Nat.reduceLeDiff, bop, uop, intop, fltop, convop, true_or, or_true, Bool.false_eq_true, ret_ok, ret_normal, outV, rvV, rvs, ex_some, pureV, pureX, pureX.pure1',
                pure1, Bool.true_and, Bool.false_and, Bool.and_true, Bool.and_false, Option.isNone_none, AV.cells, AV.one, storable, laid, refless, refless1, List.all_cons,
                List.all_nil, List.length_cons, List.length_nil, List.getElem?_cons_zero, List.getElem?_cons_succ, List.set_cons_zero, List.set_cons_succ, List.set_nil,
                List.map_cons, List.map_nil, vload, loadC, storeC, vnil, vfaddr, vextract, callTo, List.mapM_cons, List.mapM_nil, Option.pure_def, Option.bind_eq_bind,
                Option.bind_some, tabOf_cons, flatT, flatE, flatC, and_self, and_true, true_and, implies_true, forall_const, not_true_eq_false, not_false_eq_true, false_implies,
                List.take_succ_cons, List.drop_succ_cons, List.take_zero, List.drop_zero, Bool.not_true, Bool.not_false, beq_self_eq_true, decide_true, decide_false, eq_self,
                Int.reduceEq, Int.reduceLE, Int.reduceLT, Bool.not_not, Bool.true_or, Bool.or_true, Bool.false_or, Bool.or_false, if_true, if_false, List.getElem?_nil, Kl_normal,
                Kl_exit, Kl_ret, bits_i64, cast_lit, toNat_lit, Int.reduceAdd, Int.reduceSub, Int.reduceMul, Int.reduceNeg, Int.reducePow, Nat.reducePow, Int.reduceToNat,
                Nat.reduceSub, Nat.mul_one, Int.toNat_zero, prod_eta, List.nil_append, List.cons_append, List.append_nil, vconv, vmm, vidxA, viaddrA, iaddr_sl, iaddr_lsl, getE,
                vfield, vlen, fillC, fillE, List.replicate, elemsOf, List.length_map, f2iK_eq, bits_i64, bits_i32, bits_u64, bits_u32, bits_u8, e_mov, g_mov, e_conv, g_conv, e_call,
                g_call, g_math_Sqrt]
      repeat' (first
        | ((first | (refine eGI_of (fun h => ?_) (fun h => ?_)) | (refine eCc_of (fun h => ?_) (fun h => ?_))) <;> (try simp only [Bool.not_eq_true', Bool.not_eq_false'] at h) <;> (try simp only [h, reduceCtorEq, Bool.not_eq_true', decide_eq_false_iff_not, Bool.not_true, Bool.not_false, Bool.false_or, Bool.true_or, Bool.true_and, Bool.false_and, Bool.and_eq_true, Bool.or_eq_true, if_true, if_false, reduceIte, Bool.false_eq_true, and_true, true_and, false_or, or_false, decide_eq_true_eq, not_false_eq_true, not_true_eq_false] at hp) <;> (try (have h2 := h; simp only [decide_eq_true_eq, decide_eq_false_iff_not] at h2; simp only [h2, if_true, if_false, false_or, true_or, or_true, or_false, and_true, true_and, not_false_eq_true, not_true_eq_false] at hp)) <;> simp only [h,
          hp, eA_seq, eA_reg, eA_ret, eA_skip, eA_cond, eA_block, eA_exit, eCc_true, eCc_false, Kq_normal, Kq_ret, Kq_exit, Kb_normal, Kb_exit, Kb_ret, Kreg_eq, eI_nil, bindSt_some,
                bindSt_none, bindSt_ite, eR_eq, eGI_tt, eGI_ff, eGI_tf, eGI_ft, eop, vop, ev_t, ev_c, ev_f, Option.map, put_some, put_none, set_eq, setH_eq, get_eq, hp_eq,
                keep_cons, keep_nil, lk_cons, lk_nil, startSt, envOf, reduceIte, Nat.reduceEqDiff, Nat.reduceAdd, Nat.zero_add, Nat.add_zero, Nat.reduceMul, Nat.reduceLT,
                Nat.reduceLeDiff, bop, uop, intop, fltop, convop, true_or, or_true, Bool.false_eq_true, ret_ok, ret_normal, outV, rvV, rvs, ex_some, pureV, pureX, pureX.pure1',
                pure1, Bool.true_and, Bool.false_and, Bool.and_true, Bool.and_false, Option.isNone_none, AV.cells, AV.one, storable, laid, refless, refless1, List.all_cons,
                List.all_nil, List.length_cons, List.length_nil, List.getElem?_cons_zero, List.getElem?_cons_succ, List.set_cons_zero, List.set_cons_succ, List.set_nil,
                List.map_cons, List.map_nil, vload, loadC, storeC, vnil, vfaddr, vextract, callTo, List.mapM_cons, List.mapM_nil, Option.pure_def, Option.bind_eq_bind,
                Option.bind_some, tabOf_cons, flatT, flatE, flatC, and_self, and_true, true_and, implies_true, forall_const, not_true_eq_false, not_false_eq_true, false_implies,
                List.take_succ_cons, List.drop_succ_cons, List.take_zero, List.drop_zero, Bool.not_true, Bool.not_false, beq_self_eq_true, decide_true, decide_false, eq_self,
                Int.reduceEq, Int.reduceLE, Int.reduceLT, Bool.not_not, Bool.true_or, Bool.or_true, Bool.false_or, Bool.or_false, if_true, if_false, List.getElem?_nil, Kl_normal,
                Kl_exit, Kl_ret, bits_i64, cast_lit, toNat_lit, Int.reduceAdd, Int.reduceSub, Int.reduceMul, Int.reduceNeg, Int.reducePow, Nat.reducePow, Int.reduceToNat,
                Nat.reduceSub, Nat.mul_one, Int.toNat_zero, prod_eta, List.nil_append, List.cons_append, List.append_nil, vconv, vmm, vidxA, viaddrA, iaddr_sl, iaddr_lsl, getE,
                vfield, vlen, fillC, fillE, List.replicate, elemsOf, List.length_map, f2iK_eq, bits_i64, bits_i32, bits_u64, bits_u32, bits_u8, e_mov, g_mov, e_conv, g_conv, e_call,
                g_call, g_math_Sqrt]))
      all_goals (try simp only [*, m_impl_RootNumber, Bool.and_true, Bool.true_and, Bool.and_false, Bool.false_and, Bool.or_true, Bool.true_or, Bool.or_false, Bool.false_or, Bool.not_true, Bool.not_false, Bool.false_eq_true, if_true, if_false, reduceIte, decide_true, decide_false])
      all_goals (try (simp_all; done))
    · cases h
  · cases h
def m_impl_LongOf (x0 : (Nat × Nat × Nat)) : Nat := (m_impl_RootNumber (m_impl_InnerOf x0 x0))
def p_impl_LongOf (x0 : (Nat × Nat × Nat)) : Bool := (p_impl_RootNumber (m_impl_InnerOf x0 x0))
def g_impl_LongOf : List AV → Option AV
  | [.agg [.flt .f32 y0, .flt .f32 y1, .flt .f32 y2]] => if p_impl_LongOf (y0, y1, y2) = true then some (.flt .f32 (m_impl_LongOf (y0, y1,
      y2))) else none
  | _ => none
def ic65 : ICode := (.seq (.reg [⟨(some 1), none, (.box 3 (.t 0))⟩, ⟨(some 2), none, (.mov (.c (.flt .f32 0)))⟩] [1]) (.seq (.reg [⟨(some 3), none, (.load (some 3) (.t 1))⟩, ⟨(some
      4), none, (.load (some 3) (.t 1))⟩, ⟨(some 5), none, (.call (.fn 93) [(.t 3), (.t 4)] [])⟩, ⟨(some 6), none, (.call (.fn 92) [(.t 5)] [])⟩, ⟨(some 2), none, (.mov (.t 6))⟩]
      [2]) .ret))
def cp65 : CP := { n := 7, kp := [[1], [2]] }
theorem s65 : ∀ vs r, g_impl_LongOf vs = some r → Says Try.prog 65 vs r := by
  intro vs r h
  unfold g_impl_LongOf at h
  split at h
  · rename_i y0 y1 y2
    split at h
    · rename_i hp
      cases h
      refine spec_of (tab := tabOf [(92, g_impl_RootNumber), (93, g_impl_InnerOf)]) (cp := cp65) (ic := ic65) (rvl := [(.t 2)]) hm (tabOk_cons s92 (tabOk_cons s93 tabOk_nil)) Try.func65 rfl rfl rfl (by kernel_rfl) rfl (Nat.le_of_ble_eq_true rfl) ?_
      show eA _ _ _ _
      unfold ic65
      simp only [p_impl_LongOf, Bool.and_eq_true, Bool.or_eq_true, decide_eq_true_eq, Bool.not_eq_true', decide_eq_false_iff_not] at hp
      simp only [
          hp, eA_seq, eA_reg, eA_ret, eA_skip, eA_cond, eA_block, eA_exit, eCc_true, eCc_false, Kq_normal, Kq_ret, Kq_exit, Kb_normal, Kb_exit, Kb_ret, Kreg_eq, eI_nil, bindSt_some,
                bindSt_none, bindSt_ite, eR_eq, eGI_tt, eGI_ff, eGI_tf, eGI_ft, eop, vop, ev_t, ev_c, ev_f, Option.map, put_some, put_none, set_eq, setH_eq, get_eq, hp_eq,
                keep_cons, keep_nil, lk_cons, lk_nil, startSt, envOf, reduceIte, Nat.reduceEqDiff, Nat.reduceAdd, Nat.zero_add, Nat.add_zero, Nat.reduceMul, Nat.reduceLT,
                Nat.reduceLeDiff, bop, uop, intop, fltop, convop, true_or, or_true, Bool.false_eq_true, ret_ok, ret_normal, outV, rvV, rvs, ex_some, pureV, pureX, pureX.pure1',
                pure1, Bool.true_and, Bool.false_and, Bool.and_true, Bool.and_false, Option.isNone_none, AV.cells, AV.one, storable, laid, refless, refless1, List.all_cons,
                List.all_nil, List.length_cons, List.length_nil, List.getElem?_cons_zero, List.getElem?_cons_succ, List.set_cons_zero, List.set_cons_succ, List.set_nil,
                List.map_cons, List.map_nil, vload, loadC, storeC, vnil, vfaddr, vextract, callTo, List.mapM_cons, List.mapM_nil, Option.pure_def, Option.bind_eq_bind,
                Option.bind_some, tabOf_cons, flatT, flatE, flatC, and_self, and_true, true_and, implies_true, forall_const, not_true_eq_false, not_false_eq_true, false_implies,
                List.take_succ_cons, List.drop_succ_cons, List.take_zero, List.drop_zero, Bool.not_true, Bool.not_false, beq_self_eq_true, decide_true, decide_false, eq_self,
                Int.reduceEq, Int.reduceLE, Int.reduceLT, Bool.not_not, Bool.true_or, Bool.or_true, Bool.false_or, Bool.or_false, if_true, if_false, List.getElem?_nil, Kl_normal,
                Kl_exit, Kl_ret, bits_i64, cast_lit, toNat_lit, Int.reduceAdd, Int.reduceSub, Int.reduceMul, Int.reduceNeg, Int.reducePow, Nat.reducePow, Int.reduceToNat,
                Nat.reduceSub, Nat.mul_one, Int.toNat_zero, prod_eta, List.nil_append, List.cons_append, List.append_nil, vconv, vmm, vidxA, viaddrA, iaddr_sl, iaddr_lsl, getE,
                vfield, vlen, fillC, fillE, List.replicate, elemsOf, List.length_map, f2iK_eq, bits_i64, bits_i32, bits_u64, bits_u32, bits_u8, e_mov, g_mov, e_box, g_box, e_load,
                g_load, e_call, g_call, g_impl_RootNumber, g_impl_InnerOf]
      repeat' (first
        | ((first | (refine eGI_of (fun h => ?_) (fun h => ?_)) | (refine eCc_of (fun h => ?_) (fun h => ?_))) <;> (try simp only [Bool.not_eq_true', Bool.not_eq_false'] at h) <;> (try simp only [h, reduceCtorEq, Bool.not_eq_true', decide_eq_false_iff_not, Bool.not_true, Bool.not_false, Bool.false_or, Bool.true_or, Bool.true_and, Bool.false_and, Bool.and_eq_true, Bool.or_eq_true, if_true, if_false, reduceIte, Bool.false_eq_true, and_true, true_and, false_or, or_false, decide_eq_true_eq, not_false_eq_true, not_true_eq_false] at hp) <;> (try (have h2 := h; simp only [decide_eq_true_eq, decide_eq_false_iff_not] at h2; simp only [h2, if_true, if_false, false_or, true_or, or_true, or_false, and_true, true_and, not_false_eq_true, not_true_eq_false] at hp)) <;> simp only [h,
          hp, eA_seq, eA_reg, eA_ret, eA_skip, eA_cond, eA_block, eA_exit, eCc_true, eCc_false, Kq_normal, Kq_ret, Kq_exit, Kb_normal, Kb_exit, Kb_ret, Kreg_eq, eI_nil, bindSt_some,
                bindSt_none, bindSt_ite, eR_eq, eGI_tt, eGI_ff, eGI_tf, eGI_ft, eop, vop, ev_t, ev_c, ev_f, Option.map, put_some, put_none, set_eq, setH_eq, get_eq, hp_eq,
                keep_cons, keep_nil, lk_cons, lk_nil, startSt, envOf, reduceIte, Nat.reduceEqDiff, Nat.reduceAdd, Nat.zero_add, Nat.add_zero, Nat.reduceMul, Nat.reduceLT,
                Nat.reduceLeDiff, bop, uop, intop, fltop, convop, true_or, or_true, Bool.false_eq_true, ret_ok, ret_normal, outV, rvV, rvs, ex_some, pureV, pureX, pureX.pure1',
                pure1, Bool.true_and, Bool.false_and, Bool.and_true, Bool.and_false, Option.isNone_none, AV.cells, AV.one, storable, laid, refless, refless1, List.all_cons,
                List.all_nil, List.length_cons, List.length_nil, List.getElem?_cons_zero, List.getElem?_cons_succ, List.set_cons_zero, List.set_cons_succ, List.set_nil,
                List.map_cons, List.map_nil, vload, loadC, storeC, vnil, vfaddr, vextract, callTo, List.mapM_cons, List.mapM_nil, Option.pure_def, Option.bind_eq_bind,
                Option.bind_some, tabOf_cons, flatT, flatE, flatC, and_self, and_true, true_and, implies_true, forall_const, not_true_eq_false, not_false_eq_true, false_implies,
                List.take_succ_cons, List.drop_succ_cons, List.take_zero, List.drop_zero, Bool.not_true, Bool.not_false, beq_self_eq_true, decide_true, decide_false, eq_self,
                Int.reduceEq, Int.reduceLE, Int.reduceLT, Bool.not_not, Bool.true_or, Bool.or_true, Bool.false_or, Bool.or_false, if_true, if_false, List.getElem?_nil, Kl_normal,
                Kl_exit, Kl_ret, bits_i64, cast_lit, toNat_lit, Int.reduceAdd, Int.reduceSub, Int.reduceMul, Int.reduceNeg, Int.reducePow, Nat.reducePow, Int.reduceToNat,
                Nat.reduceSub, Nat.mul_one, Int.toNat_zero, prod_eta, List.nil_append, List.cons_append, List.append_nil, vconv, vmm, vidxA, viaddrA, iaddr_sl, iaddr_lsl, getE,
                vfield, vlen, fillC, fillE, List.replicate, elemsOf, List.length_map, f2iK_eq, bits_i64, bits_i32, bits_u64, bits_u32, bits_u8, e_mov, g_mov, e_box, g_box, e_load,
                g_load, e_call, g_call, g_impl_RootNumber, g_impl_InnerOf]))
      all_goals (try simp only [*, m_impl_LongOf, Bool.and_true, Bool.true_and, Bool.and_false, Bool.false_and, Bool.or_true, Bool.true_or, Bool.or_false, Bool.false_or, Bool.not_true, Bool.not_false, Bool.false_eq_true, if_true, if_false, reduceIte, decide_true, decide_false])
      all_goals (try (simp_all; done))
    · cases h
  · cases h
def m_impl_IsFinite (x0 : Nat) : Bool := (feq .f32 (fsub .f32 x0 x0) 0)
def g_impl_IsFinite : List AV → Option AV
  | [.flt .f32 y0] => some (.bool (m_impl_IsFinite y0))
  | _ => none
def ic94 : ICode := (.seq (.reg [⟨(some 2), none, (.mov (.c (.bool false)))⟩] [0]) (.seq (.reg [⟨(some 3), none, (.mov (.t 0))⟩, ⟨(some 4), none, (.mov (.t 0))⟩, ⟨(some 5), none,
      (.bin .sub false (.t 3) (.t 4))⟩, ⟨(some 6), none, (.bin .eql false (.t 5) (.c (.flt .f32 0)))⟩, ⟨(some 2), none, (.mov (.t 6))⟩] [2]) .ret))
def cp94 : CP := { n := 7, kp := [[0], [2]] }
theorem s94 : ∀ vs r, g_impl_IsFinite vs = some r → Says Try.prog 94 vs r := by
  intro vs r h
  unfold g_impl_IsFinite at h
  split at h
  · rename_i y0
    cases h
    refine spec_of (tab := tabOf []) (cp := cp94) (ic := ic94) (rvl := [(.t 2)]) hm tabOk_nil Try.func94 rfl rfl rfl (by kernel_rfl) rfl (Nat.le_of_ble_eq_true rfl) ?_
    show eA _ _ _ _
    unfold ic94
    simp only [
        eA_seq, eA_reg, eA_ret, eA_skip, eA_cond, eA_block, eA_exit, eCc_true, eCc_false, Kq_normal, Kq_ret, Kq_exit, Kb_normal, Kb_exit, Kb_ret, Kreg_eq, eI_nil, bindSt_some,
              bindSt_none, bindSt_ite, eR_eq, eGI_tt, eGI_ff, eGI_tf, eGI_ft, eop, vop, ev_t, ev_c, ev_f, Option.map, put_some, put_none, set_eq, setH_eq, get_eq, hp_eq, keep_cons,
              keep_nil, lk_cons, lk_nil, startSt, envOf, reduceIte, Nat.reduceEqDiff, Nat.reduceAdd, Nat.zero_add, Nat.add_zero, Nat.reduceMul, Nat.reduceLT, Nat.reduceLeDiff, bop,
              uop, intop, fltop, convop, true_or, or_true, Bool.false_eq_true, ret_ok, ret_normal, outV, rvV, rvs, ex_some, pureV, pureX, pureX.pure1', pure1, Bool.true_and,
              Bool.false_and, Bool.and_true, Bool.and_false, Option.isNone_none, AV.cells, AV.one, storable, laid, refless, refless1, List.all_cons, List.all_nil, List.length_cons,
              List.length_nil, List.getElem?_cons_zero, List.getElem?_cons_succ, List.set_cons_zero, List.set_cons_succ, List.set_nil, List.map_cons, List.map_nil, vload, loadC,
              storeC, vnil, vfaddr, vextract, callTo, List.mapM_cons, List.mapM_nil, Option.pure_def, Option.bind_eq_bind, Option.bind_some, tabOf_cons, flatT, flatE, flatC,
              and_self, and_true, true_and, implies_true, forall_const, not_true_eq_false, not_false_eq_true, false_implies, List.take_succ_cons, List.drop_succ_cons,
              List.take_zero, List.drop_zero, Bool.not_true, Bool.not_false, beq_self_eq_true, decide_true, decide_false, eq_self, Int.reduceEq, Int.reduceLE, Int.reduceLT,
              Bool.not_not, Bool.true_or, Bool.or_true, Bool.false_or, Bool.or_false, if_true, if_false, List.getElem?_nil, Kl_normal, Kl_exit, Kl_ret, bits_i64, cast_lit,
              toNat_lit, Int.reduceAdd, Int.reduceSub, Int.reduceMul, Int.reduceNeg, Int.reducePow, Nat.reducePow, Int.reduceToNat, Nat.reduceSub, Nat.mul_one, Int.toNat_zero,
              prod_eta, List.nil_append, List.cons_append, List.append_nil, vconv, vmm, vidxA, viaddrA, iaddr_sl, iaddr_lsl, getE, vfield, vlen, fillC, fillE, List.replicate,
              elemsOf, List.length_map, f2iK_eq, bits_i64, bits_i32, bits_u64, bits_u32, bits_u8, e_mov, g_mov, e_bin, g_bin]
    repeat' (first
      | ((first | (refine eGI_of (fun h => ?_) (fun h => ?_)) | (refine eCc_of (fun h => ?_) (fun h => ?_))) <;> (try simp only [Bool.not_eq_true', Bool.not_eq_false'] at h) <;> simp only [h,
        eA_seq, eA_reg, eA_ret, eA_skip, eA_cond, eA_block, eA_exit, eCc_true, eCc_false, Kq_normal, Kq_ret, Kq_exit, Kb_normal, Kb_exit, Kb_ret, Kreg_eq, eI_nil, bindSt_some,
              bindSt_none, bindSt_ite, eR_eq, eGI_tt, eGI_ff, eGI_tf, eGI_ft, eop, vop, ev_t, ev_c, ev_f, Option.map, put_some, put_none, set_eq, setH_eq, get_eq, hp_eq, keep_cons,
              keep_nil, lk_cons, lk_nil, startSt, envOf, reduceIte, Nat.reduceEqDiff, Nat.reduceAdd, Nat.zero_add, Nat.add_zero, Nat.reduceMul, Nat.reduceLT, Nat.reduceLeDiff, bop,
              uop, intop, fltop, convop, true_or, or_true, Bool.false_eq_true, ret_ok, ret_normal, outV, rvV, rvs, ex_some, pureV, pureX, pureX.pure1', pure1, Bool.true_and,
              Bool.false_and, Bool.and_true, Bool.and_false, Option.isNone_none, AV.cells, AV.one, storable, laid, refless, refless1, List.all_cons, List.all_nil, List.length_cons,
              List.length_nil, List.getElem?_cons_zero, List.getElem?_cons_succ, List.set_cons_zero, List.set_cons_succ, List.set_nil, List.map_cons, List.map_nil, vload, loadC,
              storeC, vnil, vfaddr, vextract, callTo, List.mapM_cons, List.mapM_nil, Option.pure_def, Option.bind_eq_bind, Option.bind_some, tabOf_cons, flatT, flatE, flatC,
              and_self, and_true, true_and, implies_true, forall_const, not_true_eq_false, not_false_eq_true, false_implies, List.take_succ_cons, List.drop_succ_cons,
              List.take_zero, List.drop_zero, Bool.not_true, Bool.not_false, beq_self_eq_true, decide_true, decide_false, eq_self, Int.reduceEq, Int.reduceLE, Int.reduceLT,
              Bool.not_not, Bool.true_or, Bool.or_true, Bool.false_or, Bool.or_false, if_true, if_false, List.getElem?_nil, Kl_normal, Kl_exit, Kl_ret, bits_i64, cast_lit,
              toNat_lit, Int.reduceAdd, Int.reduceSub, Int.reduceMul, Int.reduceNeg, Int.reducePow, Nat.reducePow, Int.reduceToNat, Nat.reduceSub, Nat.mul_one, Int.toNat_zero,
              prod_eta, List.nil_append, List.cons_append, List.append_nil, vconv, vmm, vidxA, viaddrA, iaddr_sl, iaddr_lsl, getE, vfield, vlen, fillC, fillE, List.replicate,
              elemsOf, List.length_map, f2iK_eq, bits_i64, bits_i32, bits_u64, bits_u32, bits_u8, e_mov, g_mov, e_bin, g_bin]))
    all_goals (try simp only [*, m_impl_IsFinite, Bool.and_true, Bool.true_and, Bool.and_false, Bool.false_and, Bool.or_true, Bool.true_or, Bool.or_false, Bool.false_or, Bool.not_true, Bool.not_false, Bool.false_eq_true, if_true, if_false, reduceIte, decide_true, decide_false])
    all_goals (try (simp_all; done))
  · cases h
def m_impl_isLength (x0 : Nat) : Bool := (if (m_impl_IsFinite x0) = true then (!(feq .f32 x0 0)) else false)
def g_impl_isLength : List AV → Option AV
  | [.flt .f32 y0] => some (.bool (m_impl_isLength y0))
  | _ => none
def ic66 : ICode := (.seq (.reg [⟨(some 2), none, (.mov (.c (.bool false)))⟩] [0]) (.seq (.reg [⟨(some 3), none, (.mov (.t 0))⟩, ⟨(some 4), none, (.call (.fn 94) [(.t 3)] [])⟩,
      ⟨(some 5), none, (.mov (.t 4))⟩, ⟨(some 6), (some (5, true)), (.mov (.t 0))⟩, ⟨(some 7), (some (5, true)), (.bin .neq false (.t 6) (.c (.flt .f32 0)))⟩, ⟨(some 8), none,
      (.pick (.t 5) (.t 7) (.c (.bool false)))⟩, ⟨(some 2), none, (.mov (.t 8))⟩] [2]) .ret))
def cp66 : CP := { n := 9, kp := [[0], [2]] }
theorem s66 : ∀ vs r, g_impl_isLength vs = some r → Says Try.prog 66 vs r := by
  intro vs r h
  unfold g_impl_isLength at h
  split at h
  · rename_i y0
    cases h
    refine spec_of (tab := tabOf [(94, g_impl_IsFinite)]) (cp := cp66) (ic := ic66) (rvl := [(.t 2)]) hm (tabOk_cons s94 tabOk_nil) Try.func66 rfl rfl rfl (by kernel_rfl) rfl (Nat.le_of_ble_eq_true rfl) ?_
    show eA _ _ _ _
    unfold ic66
    simp only [
        eA_seq, eA_reg, eA_ret, eA_skip, eA_cond, eA_block, eA_exit, eCc_true, eCc_false, Kq_normal, Kq_ret, Kq_exit, Kb_normal, Kb_exit, Kb_ret, Kreg_eq, eI_nil, bindSt_some,
              bindSt_none, bindSt_ite, eR_eq, eGI_tt, eGI_ff, eGI_tf, eGI_ft, eop, vop, ev_t, ev_c, ev_f, Option.map, put_some, put_none, set_eq, setH_eq, get_eq, hp_eq, keep_cons,
              keep_nil, lk_cons, lk_nil, startSt, envOf, reduceIte, Nat.reduceEqDiff, Nat.reduceAdd, Nat.zero_add, Nat.add_zero, Nat.reduceMul, Nat.reduceLT, Nat.reduceLeDiff, bop,
              uop, intop, fltop, convop, true_or, or_true, Bool.false_eq_true, ret_ok, ret_normal, outV, rvV, rvs, ex_some, pureV, pureX, pureX.pure1', pure1, Bool.true_and,
              Bool.false_and, Bool.and_true, Bool.and_false, Option.isNone_none, AV.cells, AV.one, storable, laid, refless, refless1, List.all_cons, List.all_nil, List.length_cons,
              List.length_nil, List.getElem?_cons_zero, List.getElem?_cons_succ, List.set_cons_zero, List.set_cons_succ, List.set_nil, List.map_cons, List.map_nil, vload, loadC,
              storeC, vnil, vfaddr, vextract, callTo, List.mapM_cons, List.mapM_nil, Option.pure_def, Option.bind_eq_bind, Option.bind_some, tabOf_cons, flatT, flatE, flatC,
              and_self, and_true, true_and, implies_true, forall_const, not_true_eq_false, not_false_eq_true, false_implies, List.take_succ_cons, List.drop_succ_cons,
              List.take_zero, List.drop_zero, Bool.not_true, Bool.not_false, beq_self_eq_true, decide_true, decide_false, eq_self, Int.reduceEq, Int.reduceLE, Int.reduceLT,
              Bool.not_not, Bool.true_or, Bool.or_true, Bool.false_or, Bool.or_false, if_true, if_false, List.getElem?_nil, Kl_normal, Kl_exit, Kl_ret, bits_i64, cast_lit,
              toNat_lit, Int.reduceAdd, Int.reduceSub, Int.reduceMul, Int.reduceNeg, Int.reducePow, Nat.reducePow, Int.reduceToNat, Nat.reduceSub, Nat.mul_one, Int.toNat_zero,
              prod_eta, List.nil_append, List.cons_append, List.append_nil, vconv, vmm, vidxA, viaddrA, iaddr_sl, iaddr_lsl, getE, vfield, vlen, fillC, fillE, List.replicate,
              elemsOf, List.length_map, f2iK_eq, bits_i64, bits_i32, bits_u64, bits_u32, bits_u8, e_mov, g_mov, e_pick, g_pick, e_bin, g_bin, e_call, g_call, g_impl_IsFinite,
              ↓b_pick, ePk_true, ePk_false]
    repeat' (first
      | ((first | (refine eGI_of (fun h => ?_) (fun h => ?_)) | (refine eCc_of (fun h => ?_) (fun h => ?_)) | (refine ePk_of (fun h => ?_) (fun h => ?_))) <;> (try simp only [Bool.not_eq_true', Bool.not_eq_false'] at h) <;> simp only [h,
        eA_seq, eA_reg, eA_ret, eA_skip, eA_cond, eA_block, eA_exit, eCc_true, eCc_false, Kq_normal, Kq_ret, Kq_exit, Kb_normal, Kb_exit, Kb_ret, Kreg_eq, eI_nil, bindSt_some,
              bindSt_none, bindSt_ite, eR_eq, eGI_tt, eGI_ff, eGI_tf, eGI_ft, eop, vop, ev_t, ev_c, ev_f, Option.map, put_some, put_none, set_eq, setH_eq, get_eq, hp_eq, keep_cons,
              keep_nil, lk_cons, lk_nil, startSt, envOf, reduceIte, Nat.reduceEqDiff, Nat.reduceAdd, Nat.zero_add, Nat.add_zero, Nat.reduceMul, Nat.reduceLT, Nat.reduceLeDiff, bop,
              uop, intop, fltop, convop, true_or, or_true, Bool.false_eq_true, ret_ok, ret_normal, outV, rvV, rvs, ex_some, pureV, pureX, pureX.pure1', pure1, Bool.true_and,
              Bool.false_and, Bool.and_true, Bool.and_false, Option.isNone_none, AV.cells, AV.one, storable, laid, refless, refless1, List.all_cons, List.all_nil, List.length_cons,
              List.length_nil, List.getElem?_cons_zero, List.getElem?_cons_succ, List.set_cons_zero, List.set_cons_succ, List.set_nil, List.map_cons, List.map_nil, vload, loadC,
              storeC, vnil, vfaddr, vextract, callTo, List.mapM_cons, List.mapM_nil, Option.pure_def, Option.bind_eq_bind, Option.bind_some, tabOf_cons, flatT, flatE, flatC,
              and_self, and_true, true_and, implies_true, forall_const, not_true_eq_false, not_false_eq_true, false_implies, List.take_succ_cons, List.drop_succ_cons,
              List.take_zero, List.drop_zero, Bool.not_true, Bool.not_false, beq_self_eq_true, decide_true, decide_false, eq_self, Int.reduceEq, Int.reduceLE, Int.reduceLT,
              Bool.not_not, Bool.true_or, Bool.or_true, Bool.false_or, Bool.or_false, if_true, if_false, List.getElem?_nil, Kl_normal, Kl_exit, Kl_ret, bits_i64, cast_lit,
              toNat_lit, Int.reduceAdd, Int.reduceSub, Int.reduceMul, Int.reduceNeg, Int.reducePow, Nat.reducePow, Int.reduceToNat, Nat.reduceSub, Nat.mul_one, Int.toNat_zero,
              prod_eta, List.nil_append, List.cons_append, List.append_nil, vconv, vmm, vidxA, viaddrA, iaddr_sl, iaddr_lsl, getE, vfield, vlen, fillC, fillE, List.replicate,
              elemsOf, List.length_map, f2iK_eq, bits_i64, bits_i32, bits_u64, bits_u32, bits_u8, e_mov, g_mov, e_pick, g_pick, e_bin, g_bin, e_call, g_call, g_impl_IsFinite,
              ↓b_pick, ePk_true, ePk_false]))
    all_goals (try simp only [*, m_impl_isLength, Bool.and_true, Bool.true_and, Bool.and_false, Bool.false_and, Bool.or_true, Bool.true_or, Bool.or_false, Bool.false_or, Bool.not_true, Bool.not_false, Bool.false_eq_true, if_true, if_false, reduceIte, decide_true, decide_false])
    all_goals (try (simp_all; done))
  · cases h
def m_impl_ScaleVector (x0 : (Nat × Nat × Nat)) (x1 : Nat) : (Nat × Nat × Nat) := ((fmul .f32 x0.1 x1), (fmul .f32 x0.2.1 x1), (fmul .f32 x0.2.2 x1))
def g_impl_ScaleVector : List AV → Option AV
  | [.agg [.flt .f32 y0, .flt .f32 y1, .flt .f32 y2], .flt .f32 y3] => some (AV.agg [(.flt .f32 (m_impl_ScaleVector (y0, y1, y2) y3).1),
      (.flt .f32 (m_impl_ScaleVector (y0, y1, y2) y3).2.1), (.flt .f32 (m_impl_ScaleVector (y0, y1, y2) y3).2.2)])
  | _ => none
def ic68 : ICode := (.seq (.reg [⟨(some 2), none, (.box 3 (.t 0))⟩, ⟨(some 4), none, (.alloc (.agg [(.flt .f32 0), (.flt .f32 0), (.flt .f32 0)]))⟩] [1, 2, 4]) (.seq (.reg [⟨(some
      5), none, (.faddr 0 (.t 2))⟩, ⟨(some 6), none, (.load none (.t 5))⟩, ⟨(some 7), none, (.mov (.t 1))⟩, ⟨(some 8), none, (.bin .mul false (.t 6) (.t 7))⟩, ⟨(some 9), none,
      (.faddr 1 (.t 2))⟩, ⟨(some 10), none, (.load none (.t 9))⟩, ⟨(some 11), none, (.mov (.t 1))⟩, ⟨(some 12), none, (.bin .mul false (.t 10) (.t 11))⟩, ⟨(some 13), none, (.faddr 2
      (.t 2))⟩, ⟨(some 14), none, (.load none (.t 13))⟩, ⟨(some 15), none, (.mov (.t 1))⟩, ⟨(some 16), none, (.bin .mul false (.t 14) (.t 15))⟩, ⟨(some 17), none, (.build [(.flt
      .f32 0), (.flt .f32 0), (.flt .f32 0)] [(0, 1, (.t 8)), (1, 1, (.t 12)), (2, 1, (.t 16))])⟩, ⟨none, none, (.store 3 (.t 4) (.t 17))⟩] [4]) .ret))
def cp68 : CP := { n := 18, kp := [[1, 2, 4], [4]] }
theorem s68 : ∀ vs r, g_impl_ScaleVector vs = some r → Says Try.prog 68 vs r := by
  intro vs r h
  unfold g_impl_ScaleVector at h
  split at h
  · rename_i y0 y1 y2 y3
    cases h
    refine spec_of (tab := tabOf []) (cp := cp68) (ic := ic68) (rvl := [(.c 4 (some 3))]) hm tabOk_nil Try.func68 rfl rfl rfl (by kernel_rfl) rfl (Nat.le_of_ble_eq_true rfl) ?_
    show eA _ _ _ _
    unfold ic68
    simp only [
        eA_seq, eA_reg, eA_ret, eA_skip, eA_cond, eA_block, eA_exit, eCc_true, eCc_false, Kq_normal, Kq_ret, Kq_exit, Kb_normal, Kb_exit, Kb_ret, Kreg_eq, eI_nil, bindSt_some,
              bindSt_none, bindSt_ite, eR_eq, eGI_tt, eGI_ff, eGI_tf, eGI_ft, eop, vop, ev_t, ev_c, ev_f, Option.map, put_some, put_none, set_eq, setH_eq, get_eq, hp_eq, keep_cons,
              keep_nil, lk_cons, lk_nil, startSt, envOf, reduceIte, Nat.reduceEqDiff, Nat.reduceAdd, Nat.zero_add, Nat.add_zero, Nat.reduceMul, Nat.reduceLT, Nat.reduceLeDiff, bop,
              uop, intop, fltop, convop, true_or, or_true, Bool.false_eq_true, ret_ok, ret_normal, outV, rvV, rvs, ex_some, pureV, pureX, pureX.pure1', pure1, Bool.true_and,
              Bool.false_and, Bool.and_true, Bool.and_false, Option.isNone_none, AV.cells, AV.one, storable, laid, refless, refless1, List.all_cons, List.all_nil, List.length_cons,
              List.length_nil, List.getElem?_cons_zero, List.getElem?_cons_succ, List.set_cons_zero, List.set_cons_succ, List.set_nil, List.map_cons, List.map_nil, vload, loadC,
              storeC, vnil, vfaddr, vextract, callTo, List.mapM_cons, List.mapM_nil, Option.pure_def, Option.bind_eq_bind, Option.bind_some, tabOf_cons, flatT, flatE, flatC,
              and_self, and_true, true_and, implies_true, forall_const, not_true_eq_false, not_false_eq_true, false_implies, List.take_succ_cons, List.drop_succ_cons,
              List.take_zero, List.drop_zero, Bool.not_true, Bool.not_false, beq_self_eq_true, decide_true, decide_false, eq_self, Int.reduceEq, Int.reduceLE, Int.reduceLT,
              Bool.not_not, Bool.true_or, Bool.or_true, Bool.false_or, Bool.or_false, if_true, if_false, List.getElem?_nil, Kl_normal, Kl_exit, Kl_ret, bits_i64, cast_lit,
              toNat_lit, Int.reduceAdd, Int.reduceSub, Int.reduceMul, Int.reduceNeg, Int.reducePow, Nat.reducePow, Int.reduceToNat, Nat.reduceSub, Nat.mul_one, Int.toNat_zero,
              prod_eta, List.nil_append, List.cons_append, List.append_nil, vconv, vmm, vidxA, viaddrA, iaddr_sl, iaddr_lsl, getE, vfield, vlen, fillC, fillE, List.replicate,
              elemsOf, List.length_map, f2iK_eq, bits_i64, bits_i32, bits_u64, bits_u32, bits_u8, e_mov, g_mov, e_alloc, g_alloc, e_box, g_box, e_build, g_build, e_load, g_load,
              e_store, g_store, e_bin, g_bin, e_faddr, g_faddr]
    repeat' (first
      | ((first | (refine eGI_of (fun h => ?_) (fun h => ?_)) | (refine eCc_of (fun h => ?_) (fun h => ?_))) <;> (try simp only [Bool.not_eq_true', Bool.not_eq_false'] at h) <;> simp only [h,
        eA_seq, eA_reg, eA_ret, eA_skip, eA_cond, eA_block, eA_exit, eCc_true, eCc_false, Kq_normal, Kq_ret, Kq_exit, Kb_normal, Kb_exit, Kb_ret, Kreg_eq, eI_nil, bindSt_some,
              bindSt_none, bindSt_ite, eR_eq, eGI_tt, eGI_ff, eGI_tf, eGI_ft, eop, vop, ev_t, ev_c, ev_f, Option.map, put_some, put_none, set_eq, setH_eq, get_eq, hp_eq, keep_cons,
              keep_nil, lk_cons, lk_nil, startSt, envOf, reduceIte, Nat.reduceEqDiff, Nat.reduceAdd, Nat.zero_add, Nat.add_zero, Nat.reduceMul, Nat.reduceLT, Nat.reduceLeDiff, bop,
              uop, intop, fltop, convop, true_or, or_true, Bool.false_eq_true, ret_ok, ret_normal, outV, rvV, rvs, ex_some, pureV, pureX, pureX.pure1', pure1, Bool.true_and,
              Bool.false_and, Bool.and_true, Bool.and_false, Option.isNone_none, AV.cells, AV.one, storable, laid, refless, refless1, List.all_cons, List.all_nil, List.length_cons,
              List.length_nil, List.getElem?_cons_zero, List.getElem?_cons_succ, List.set_cons_zero, List.set_cons_succ, List.set_nil, List.map_cons, List.map_nil, vload, loadC,
              storeC, vnil, vfaddr, vextract, callTo, List.mapM_cons, List.mapM_nil, Option.pure_def, Option.bind_eq_bind, Option.bind_some, tabOf_cons, flatT, flatE, flatC,
              and_self, and_true, true_and, implies_true, forall_const, not_true_eq_false, not_false_eq_true, false_implies, List.take_succ_cons, List.drop_succ_cons,
              List.take_zero, List.drop_zero, Bool.not_true, Bool.not_false, beq_self_eq_true, decide_true, decide_false, eq_self, Int.reduceEq, Int.reduceLE, Int.reduceLT,
              Bool.not_not, Bool.true_or, Bool.or_true, Bool.false_or, Bool.or_false, if_true, if_false, List.getElem?_nil, Kl_normal, Kl_exit, Kl_ret, bits_i64, cast_lit,
              toNat_lit, Int.reduceAdd, Int.reduceSub, Int.reduceMul, Int.reduceNeg, Int.reducePow, Nat.reducePow, Int.reduceToNat, Nat.reduceSub, Nat.mul_one, Int.toNat_zero,
              prod_eta, List.nil_append, List.cons_append, List.append_nil, vconv, vmm, vidxA, viaddrA, iaddr_sl, iaddr_lsl, getE, vfield, vlen, fillC, fillE, List.replicate,
              elemsOf, List.length_map, f2iK_eq, bits_i64, bits_i32, bits_u64, bits_u32, bits_u8, e_mov, g_mov, e_alloc, g_alloc, e_box, g_box, e_build, g_build, e_load, g_load,
              e_store, g_store, e_bin, g_bin, e_faddr, g_faddr]))
    all_goals (try simp only [*, m_impl_ScaleVector, Bool.and_true, Bool.true_and, Bool.and_false, Bool.false_and, Bool.or_true, Bool.true_or, Bool.or_false, Bool.false_or, Bool.not_true, Bool.not_false, Bool.false_eq_true, if_true, if_false, reduceIte, decide_true, decide_false])
    all_goals (try (simp_all; done))
  · cases h
def m_impl_AddVectors (x0 : (Nat × Nat × Nat)) (x1 : (Nat × Nat × Nat)) : (Nat × Nat × Nat) := ((fadd .f32 x0.1 x1.1), (fadd .f32 x0.2.1 x1.2.1), (fadd .f32 x0.2.2 x1.2.2))
def g_impl_AddVectors : List AV → Option AV
  | [.agg [.flt .f32 y0, .flt .f32 y1, .flt .f32 y2], .agg [.flt .f32 y3, .flt .f32 y4, .flt .f32 y5]] => some (AV.agg [(.flt .f32
      (m_impl_AddVectors (y0, y1, y2) (y3, y4, y5)).1), (.flt .f32 (m_impl_AddVectors (y0, y1, y2) (y3, y4, y5)).2.1), (.flt .f32 (m_impl_AddVectors (y0, y1, y2) (y3, y4,
      y5)).2.2)])
  | _ => none
def ic67 : ICode := (.seq (.reg [⟨(some 2), none, (.box 3 (.t 0))⟩, ⟨(some 3), none, (.box 3 (.t 1))⟩, ⟨(some 4), none, (.alloc (.agg [(.flt .f32 0), (.flt .f32 0), (.flt .f32
      0)]))⟩] [2, 3, 4]) (.seq (.reg [⟨(some 5), none, (.faddr 0 (.t 2))⟩, ⟨(some 6), none, (.load none (.t 5))⟩, ⟨(some 7), none, (.faddr 0 (.t 3))⟩, ⟨(some 8), none, (.load none
      (.t 7))⟩, ⟨(some 9), none, (.bin .add false (.t 6) (.t 8))⟩, ⟨(some 10), none, (.faddr 1 (.t 2))⟩, ⟨(some 11), none, (.load none (.t 10))⟩, ⟨(some 12), none, (.faddr 1 (.t
      3))⟩, ⟨(some 13), none, (.load none (.t 12))⟩, ⟨(some 14), none, (.bin .add false (.t 11) (.t 13))⟩, ⟨(some 15), none, (.faddr 2 (.t 2))⟩, ⟨(some 16), none, (.load none (.t
      15))⟩, ⟨(some 17), none, (.faddr 2 (.t 3))⟩, ⟨(some 18), none, (.load none (.t 17))⟩, ⟨(some 19), none, (.bin .add false (.t 16) (.t 18))⟩, ⟨(some 20), none, (.build [(.flt
      .f32 0), (.flt .f32 0), (.flt .f32 0)] [(0, 1, (.t 9)), (1, 1, (.t 14)), (2, 1, (.t 19))])⟩, ⟨none, none, (.store 3 (.t 4) (.t 20))⟩] [4]) .ret))
def cp67 : CP := { n := 21, kp := [[2, 3, 4], [4]] }
theorem s67 : ∀ vs r, g_impl_AddVectors vs = some r → Says Try.prog 67 vs r := by
  intro vs r h
  unfold g_impl_AddVectors at h
  split at h
  · rename_i y0 y1 y2 y3 y4 y5
    cases h
    refine spec_of (tab := tabOf []) (cp := cp67) (ic := ic67) (rvl := [(.c 4 (some 3))]) hm tabOk_nil Try.func67 rfl rfl rfl (by kernel_rfl) rfl (Nat.le_of_ble_eq_true rfl) ?_
    show eA _ _ _ _
    unfold ic67
    simp only [
        eA_seq, eA_reg, eA_ret, eA_skip, eA_cond, eA_block, eA_exit, eCc_true, eCc_false, Kq_normal, Kq_ret, Kq_exit, Kb_normal, Kb_exit, Kb_ret, Kreg_eq, eI_nil, bindSt_some,
              bindSt_none, bindSt_ite, eR_eq, eGI_tt, eGI_ff, eGI_tf, eGI_ft, eop, vop, ev_t, ev_c, ev_f, Option.map, put_some, put_none, set_eq, setH_eq, get_eq, hp_eq, keep_cons,
              keep_nil, lk_cons, lk_nil, startSt, envOf, reduceIte, Nat.reduceEqDiff, Nat.reduceAdd, Nat.zero_add, Nat.add_zero, Nat.reduceMul, Nat.reduceLT, Nat.reduceLeDiff, bop,
              uop, intop, fltop, convop, true_or, or_true, Bool.false_eq_true, ret_ok, ret_normal, outV, rvV, rvs, ex_some, pureV, pureX, pureX.pure1', pure1, Bool.true_and,
              Bool.false_and, Bool.and_true, Bool.and_false, Option.isNone_none, AV.cells, AV.one, storable, laid, refless, refless1, List.all_cons, List.all_nil, List.length_cons,
              List.length_nil, List.getElem?_cons_zero, List.getElem?_cons_succ, List.set_cons_zero, List.set_cons_succ, List.set_nil, List.map_cons, List.map_nil, vload, loadC,
              storeC, vnil, vfaddr, vextract, callTo, List.mapM_cons, List.mapM_nil, Option.pure_def, Option.bind_eq_bind, Option.bind_some, tabOf_cons, flatT, flatE, flatC,
              and_self, and_true, true_and, implies_true, forall_const, not_true_eq_false, not_false_eq_true, false_implies, List.take_succ_cons, List.drop_succ_cons,
              List.take_zero, List.drop_zero, Bool.not_true, Bool.not_false, beq_self_eq_true, decide_true, decide_false, eq_self, Int.reduceEq, Int.reduceLE, Int.reduceLT,
              Bool.not_not, Bool.true_or, Bool.or_true, Bool.false_or, Bool.or_false, if_true, if_false, List.getElem?_nil, Kl_normal, Kl_exit, Kl_ret, bits_i64, cast_lit,
              toNat_lit, Int.reduceAdd, Int.reduceSub, Int.reduceMul, Int.reduceNeg, Int.reducePow, Nat.reducePow, Int.reduceToNat, Nat.reduceSub, Nat.mul_one, Int.toNat_zero,
              prod_eta, List.nil_append, List.cons_append, List.append_nil, vconv, vmm, vidxA, viaddrA, iaddr_sl, iaddr_lsl, getE, vfield, vlen, fillC, fillE, List.replicate,
              elemsOf, List.length_map, f2iK_eq, bits_i64, bits_i32, bits_u64, bits_u32, bits_u8, e_alloc, g_alloc, e_box, g_box, e_build, g_build, e_load, g_load, e_store, g_store,
              e_bin, g_bin, e_faddr, g_faddr]
    repeat' (first
      | ((first | (refine eGI_of (fun h => ?_) (fun h => ?_)) | (refine eCc_of (fun h => ?_) (fun h => ?_))) <;> (try simp only [Bool.not_eq_true', Bool.not_eq_false'] at h) <;> simp only [h,
        eA_seq, eA_reg, eA_ret, eA_skip, eA_cond, eA_block, eA_exit, eCc_true, eCc_false, Kq_normal, Kq_ret, Kq_exit, Kb_normal, Kb_exit, Kb_ret, Kreg_eq, eI_nil, bindSt_some,
              bindSt_none, bindSt_ite, eR_eq, eGI_tt, eGI_ff, eGI_tf, eGI_ft, eop, vop, ev_t, ev_c, ev_f, Option.map, put_some, put_none, set_eq, setH_eq, get_eq, hp_eq, keep_cons,
              keep_nil, lk_cons, lk_nil, startSt, envOf, reduceIte, Nat.reduceEqDiff, Nat.reduceAdd, Nat.zero_add, Nat.add_zero, Nat.reduceMul, Nat.reduceLT, Nat.reduceLeDiff, bop,
              uop, intop, fltop, convop, true_or, or_true, Bool.false_eq_true, ret_ok, ret_normal, outV, rvV, rvs, ex_some, pureV, pureX, pureX.pure1', pure1, Bool.true_and,
              Bool.false_and, Bool.and_true, Bool.and_false, Option.isNone_none, AV.cells, AV.one, storable, laid, refless, refless1, List.all_cons, List.all_nil, List.length_cons,
              List.length_nil, List.getElem?_cons_zero, List.getElem?_cons_succ, List.set_cons_zero, List.set_cons_succ, List.set_nil, List.map_cons, List.map_nil, vload, loadC,
              storeC, vnil, vfaddr, vextract, callTo, List.mapM_cons, List.mapM_nil, Option.pure_def, Option.bind_eq_bind, Option.bind_some, tabOf_cons, flatT, flatE, flatC,
              and_self, and_true, true_and, implies_true, forall_const, not_true_eq_false, not_false_eq_true, false_implies, List.take_succ_cons, List.drop_succ_cons,
              List.take_zero, List.drop_zero, Bool.not_true, Bool.not_false, beq_self_eq_true, decide_true, decide_false, eq_self, Int.reduceEq, Int.reduceLE, Int.reduceLT,
              Bool.not_not, Bool.true_or, Bool.or_true, Bool.false_or, Bool.or_false, if_true, if_false, List.getElem?_nil, Kl_normal, Kl_exit, Kl_ret, bits_i64, cast_lit,
              toNat_lit, Int.reduceAdd, Int.reduceSub, Int.reduceMul, Int.reduceNeg, Int.reducePow, Nat.reducePow, Int.reduceToNat, Nat.reduceSub, Nat.mul_one, Int.toNat_zero,
              prod_eta, List.nil_append, List.cons_append, List.append_nil, vconv, vmm, vidxA, viaddrA, iaddr_sl, iaddr_lsl, getE, vfield, vlen, fillC, fillE, List.replicate,
              elemsOf, List.length_map, f2iK_eq, bits_i64, bits_i32, bits_u64, bits_u32, bits_u8, e_alloc, g_alloc, e_box, g_box, e_build, g_build, e_load, g_load, e_store, g_store,
              e_bin, g_bin, e_faddr, g_faddr]))
    all_goals (try simp only [*, m_impl_AddVectors, Bool.and_true, Bool.true_and, Bool.and_false, Bool.false_and, Bool.or_true, Bool.true_or, Bool.or_false, Bool.false_or, Bool.not_true, Bool.not_false, Bool.false_eq_true, if_true, if_false, reduceIte, decide_true, decide_false])
    all_goals (try (simp_all; done))
  · cases h
def m_impl_PlaceAt (x0 : (Nat × Nat × Nat)) (x1 : (Nat × Nat × Nat)) (x2 : Nat) : (Nat × Nat × Nat) := (if (m_impl_isLength (m_impl_LongOf (m_impl_LessVectors x1 x0))) = true then
      (m_impl_AddVectors x0 (m_impl_ScaleVector (m_impl_LessVectors x1 x0) (fdiv .f32 x2 (m_impl_LongOf (m_impl_LessVectors x1 x0))))) else ((fadd .f32 x0.1 x2), x0.2.1, x0.2.2))
def p_impl_PlaceAt (x0 : (Nat × Nat × Nat)) (x1 : (Nat × Nat × Nat)) (x2 : Nat) : Bool := (p_impl_LongOf (m_impl_LessVectors x1 x0))
def g_impl_PlaceAt : List AV → Option AV
  | [.agg [.flt .f32 y0, .flt .f32 y1, .flt .f32 y2], .agg [.flt .f32 y3, .flt .f32 y4, .flt .f32 y5], .flt .f32 y6] => if p_impl_PlaceAt
      (y0, y1, y2) (y3, y4, y5) y6 = true then some (AV.agg [(.flt .f32 (m_impl_PlaceAt (y0, y1, y2) (y3, y4, y5) y6).1), (.flt .f32 (m_impl_PlaceAt (y0, y1, y2) (y3, y4, y5)
      y6).2.1), (.flt .f32 (m_impl_PlaceAt (y0, y1, y2) (y3, y4, y5) y6).2.2)]) else none
  | _ => none
def ic39 : ICode := (.seq (.reg [⟨(some 3), none, (.box 3 (.t 0))⟩, ⟨(some 4), none, (.box 3 (.t 1))⟩, ⟨(some 6), none, (.alloc (.agg [(.flt .f32 0), (.flt .f32 0), (.flt .f32
      0)]))⟩] [2, 3, 4, 6]) (.seq (.reg [⟨(some 9), none, (.load (some 3) (.t 4))⟩, ⟨(some 10), none, (.load (some 3) (.t 3))⟩, ⟨(some 11), none, (.call (.fn 64) [(.t 9), (.t 10)]
      [])⟩, ⟨(some 7), none, (.alloc (.agg [(.flt .f32 0), (.flt .f32 0), (.flt .f32 0)]))⟩, ⟨none, none, (.store 3 (.t 7) (.t 11))⟩] [2, 3, 6, 7]) (.seq (.reg [⟨(some 12), none,
      (.load (some 3) (.t 7))⟩, ⟨(some 13), none, (.call (.fn 65) [(.t 12)] [])⟩, ⟨(some 8), none, (.mov (.t 13))⟩] [2, 3, 6, 7, 8]) (.seq (.seq (.reg [⟨(some 14), none, (.mov (.t
      8))⟩, ⟨(some 15), none, (.call (.fn 66) [(.t 14)] [])⟩, ⟨(some 16), none, (.un .not (.t 15))⟩] [2, 3, 6, 7, 8, 16]) (.cond (.t 16) (.seq (.reg [⟨(some 17), none, (.faddr 0 (.t
      3))⟩, ⟨(some 18), none, (.load none (.t 17))⟩, ⟨(some 19), none, (.mov (.t 2))⟩, ⟨(some 20), none, (.bin .add false (.t 18) (.t 19))⟩, ⟨(some 21), none, (.faddr 0 (.t 3))⟩,
      ⟨none, none, (.store 1 (.t 21) (.t 20))⟩] [3, 6]) (.seq (.reg [⟨(some 22), none, (.load (some 3) (.t 3))⟩, ⟨none, none, (.store 3 (.t 6) (.t 22))⟩] [6]) .ret)) .skip)) (.seq
      (.reg [⟨(some 23), none, (.load (some 3) (.t 3))⟩, ⟨(some 24), none, (.load (some 3) (.t 7))⟩, ⟨(some 25), none, (.mov (.t 2))⟩, ⟨(some 26), none, (.mov (.t 8))⟩, ⟨(some 27),
      none, (.bin .quo false (.t 25) (.t 26))⟩, ⟨(some 28), none, (.call (.fn 68) [(.t 24), (.t 27)] [])⟩, ⟨(some 29), none, (.call (.fn 67) [(.t 23), (.t 28)] [])⟩, ⟨none, none,
      (.store 3 (.t 6) (.t 29))⟩] [6]) .ret)))))
def cp39 : CP := { n := 30, kp := [[2, 3, 4, 6], [2, 3, 6, 7], [2, 3, 6, 7, 8], [2, 3, 6, 7, 8, 16], [3, 6], [6], [6]] }
theorem s39 : ∀ vs r, g_impl_PlaceAt vs = some r → Says Try.prog 39 vs r := by
  intro vs r h
  unfold g_impl_PlaceAt at h
  split at h
  · rename_i y0 y1 y2 y3 y4 y5 y6
    split at h
    · rename_i hp
      cases h
      refine spec_of (tab := tabOf [(64, g_impl_LessVectors), (65, g_impl_LongOf), (66, g_impl_isLength), (67, g_impl_AddVectors), (68, g_impl_ScaleVector)]) (cp := cp39) (ic := ic39) (rvl := [(.c 6 (some 3))]) hm (tabOk_cons s64 (tabOk_cons s65 (tabOk_cons s66 (tabOk_cons s67 (tabOk_cons s68 tabOk_nil))))) Try.func39 rfl rfl rfl (by kernel_rfl) rfl (Nat.le_of_ble_eq_true rfl) ?_
      show eA _ _ _ _
      unfold ic39
      simp only [p_impl_PlaceAt, Bool.and_eq_true, Bool.or_eq_true, decide_eq_true_eq, Bool.not_eq_true', decide_eq_false_iff_not] at hp
      simp only [
          hp, eA_seq, eA_reg, eA_ret, eA_skip, eA_cond, eA_block, eA_exit, eCc_true, eCc_false, Kq_normal, Kq_ret, Kq_exit, Kb_normal, Kb_exit, Kb_ret, Kreg_eq, eI_nil, bindSt_some,
                bindSt_none, bindSt_ite, eR_eq, eGI_tt, eGI_ff, eGI_tf, eGI_ft, eop, vop, ev_t, ev_c, ev_f, Option.map, put_some, put_none, set_eq, setH_eq, get_eq, hp_eq,
                keep_cons, keep_nil, lk_cons, lk_nil, startSt, envOf, reduceIte, Nat.reduceEqDiff, Nat.reduceAdd, Nat.zero_add, Nat.add_zero, Nat.reduceMul, Nat.reduceLT,
                Nat.reduceLeDiff, bop, uop, intop, fltop, convop, true_or, or_true, Bool.false_eq_true, ret_ok, ret_normal, outV, rvV, rvs, ex_some, pureV, pureX, pureX.pure1',
                pure1, Bool.true_and, Bool.false_and, Bool.and_true, Bool.and_false, Option.isNone_none, AV.cells, AV.one, storable, laid, refless, refless1, List.all_cons,
                List.all_nil, List.length_cons, List.length_nil, List.getElem?_cons_zero, List.getElem?_cons_succ, List.set_cons_zero, List.set_cons_succ, List.set_nil,
                List.map_cons, List.map_nil, vload, loadC, storeC, vnil, vfaddr, vextract, callTo, List.mapM_cons, List.mapM_nil, Option.pure_def, Option.bind_eq_bind,
                Option.bind_some, tabOf_cons, flatT, flatE, flatC, and_self, and_true, true_and, implies_true, forall_const, not_true_eq_false, not_false_eq_true, false_implies,
                List.take_succ_cons, List.drop_succ_cons, List.take_zero, List.drop_zero, Bool.not_true, Bool.not_false, beq_self_eq_true, decide_true, decide_false, eq_self,
                Int.reduceEq, Int.reduceLE, Int.reduceLT, Bool.not_not, Bool.true_or, Bool.or_true, Bool.false_or, Bool.or_false, if_true, if_false, List.getElem?_nil, Kl_normal,
                Kl_exit, Kl_ret, bits_i64, cast_lit, toNat_lit, Int.reduceAdd, Int.reduceSub, Int.reduceMul, Int.reduceNeg, Int.reducePow, Nat.reducePow, Int.reduceToNat,
                Nat.reduceSub, Nat.mul_one, Int.toNat_zero, prod_eta, List.nil_append, List.cons_append, List.append_nil, vconv, vmm, vidxA, viaddrA, iaddr_sl, iaddr_lsl, getE,
                vfield, vlen, fillC, fillE, List.replicate, elemsOf, List.length_map, f2iK_eq, bits_i64, bits_i32, bits_u64, bits_u32, bits_u8, e_mov, g_mov, e_alloc, g_alloc,
                e_box, g_box, e_load, g_load, e_store, g_store, e_bin, g_bin, e_un, g_un, e_faddr, g_faddr, e_call, g_call, g_impl_LessVectors, g_impl_LongOf, g_impl_isLength,
                g_impl_AddVectors, g_impl_ScaleVector]
      repeat' (first
        | ((first | (refine eGI_of (fun h => ?_) (fun h => ?_)) | (refine eCc_of (fun h => ?_) (fun h => ?_))) <;> (try simp only [Bool.not_eq_true', Bool.not_eq_false'] at h) <;> (try simp only [h, reduceCtorEq, Bool.not_eq_true', decide_eq_false_iff_not, Bool.not_true, Bool.not_false, Bool.false_or, Bool.true_or, Bool.true_and, Bool.false_and, Bool.and_eq_true, Bool.or_eq_true, if_true, if_false, reduceIte, Bool.false_eq_true, and_true, true_and, false_or, or_false, decide_eq_true_eq, not_false_eq_true, not_true_eq_false] at hp) <;> (try (have h2 := h; simp only [decide_eq_true_eq, decide_eq_false_iff_not] at h2; simp only [h2, if_true, if_false, false_or, true_or, or_true, or_false, and_true, true_and, not_false_eq_true, not_true_eq_false] at hp)) <;> simp only [h,
          hp, eA_seq, eA_reg, eA_ret, eA_skip, eA_cond, eA_block, eA_exit, eCc_true, eCc_false, Kq_normal, Kq_ret, Kq_exit, Kb_normal, Kb_exit, Kb_ret, Kreg_eq, eI_nil, bindSt_some,
                bindSt_none, bindSt_ite, eR_eq, eGI_tt, eGI_ff, eGI_tf, eGI_ft, eop, vop, ev_t, ev_c, ev_f, Option.map, put_some, put_none, set_eq, setH_eq, get_eq, hp_eq,
                keep_cons, keep_nil, lk_cons, lk_nil, startSt, envOf, reduceIte, Nat.reduceEqDiff, Nat.reduceAdd, Nat.zero_add, Nat.add_zero, Nat.reduceMul, Nat.reduceLT,
                Nat.reduceLeDiff, bop, uop, intop, fltop, convop, true_or, or_true, Bool.false_eq_true, ret_ok, ret_normal, outV, rvV, rvs, ex_some, pureV, pureX, pureX.pure1',
                pure1, Bool.true_and, Bool.false_and, Bool.and_true, Bool.and_false, Option.isNone_none, AV.cells, AV.one, storable, laid, refless, refless1, List.all_cons,
                List.all_nil, List.length_cons, List.length_nil, List.getElem?_cons_zero, List.getElem?_cons_succ, List.set_cons_zero, List.set_cons_succ, List.set_nil,
                List.map_cons, List.map_nil, vload, loadC, storeC, vnil, vfaddr, vextract, callTo, List.mapM_cons, List.mapM_nil, Option.pure_def, Option.bind_eq_bind,
                Option.bind_some, tabOf_cons, flatT, flatE, flatC, and_self, and_true, true_and, implies_true, forall_const, not_true_eq_false, not_false_eq_true, false_implies,
                List.take_succ_cons, List.drop_succ_cons, List.take_zero, List.drop_zero, Bool.not_true, Bool.not_false, beq_self_eq_true, decide_true, decide_false, eq_self,
                Int.reduceEq, Int.reduceLE, Int.reduceLT, Bool.not_not, Bool.true_or, Bool.or_true, Bool.false_or, Bool.or_false, if_true, if_false, List.getElem?_nil, Kl_normal,
                Kl_exit, Kl_ret, bits_i64, cast_lit, toNat_lit, Int.reduceAdd, Int.reduceSub, Int.reduceMul, Int.reduceNeg, Int.reducePow, Nat.reducePow, Int.reduceToNat,
                Nat.reduceSub, Nat.mul_one, Int.toNat_zero, prod_eta, List.nil_append, List.cons_append, List.append_nil, vconv, vmm, vidxA, viaddrA, iaddr_sl, iaddr_lsl, getE,
                vfield, vlen, fillC, fillE, List.replicate, elemsOf, List.length_map, f2iK_eq, bits_i64, bits_i32, bits_u64, bits_u32, bits_u8, e_mov, g_mov, e_alloc, g_alloc,
                e_box, g_box, e_load, g_load, e_store, g_store, e_bin, g_bin, e_un, g_un, e_faddr, g_faddr, e_call, g_call, g_impl_LessVectors, g_impl_LongOf, g_impl_isLength,
                g_impl_AddVectors, g_impl_ScaleVector]))
      all_goals (try simp only [*, m_impl_PlaceAt, Bool.and_true, Bool.true_and, Bool.and_false, Bool.false_and, Bool.or_true, Bool.true_or, Bool.or_false, Bool.false_or, Bool.not_true, Bool.not_false, Bool.false_eq_true, if_true, if_false, reduceIte, decide_true, decide_false])
      all_goals (try (simp_all; done))
    · cases h
  · cases h
def m_impl_StepTowards (x0 : (Nat × Nat × Nat)) (x1 : (Nat × Nat × Nat)) (x2 : Nat) : (Nat × Nat × Nat) := (if (fle .f32 (m_impl_LongOf (m_impl_LessVectors x1 x0)) x2) = true then
      x1 else (m_impl_PlaceAt x0 x1 x2))
def p_impl_StepTowards (x0 : (Nat × Nat × Nat)) (x1 : (Nat × Nat × Nat)) (x2 : Nat) : Bool := ((p_impl_LongOf (m_impl_LessVectors x1 x0)) && ((fle .f32 (m_impl_LongOf
      (m_impl_LessVectors x1 x0)) x2) || (p_impl_PlaceAt x0 x1 x2)))
def g_impl_StepTowards : List AV → Option AV
  | [.agg [.flt .f32 y0, .flt .f32 y1, .flt .f32 y2], .agg [.flt .f32 y3, .flt .f32 y4, .flt .f32 y5], .flt .f32 y6] => if
      p_impl_StepTowards (y0, y1, y2) (y3, y4, y5) y6 = true then some (AV.agg [(.flt .f32 (m_impl_StepTowards (y0, y1, y2) (y3, y4, y5) y6).1), (.flt .f32 (m_impl_StepTowards (y0,
      y1, y2) (y3, y4, y5) y6).2.1), (.flt .f32 (m_impl_StepTowards (y0, y1, y2) (y3, y4, y5) y6).2.2)]) else none
  | _ => none
def ic42 : ICode := (.seq (.reg [⟨(some 3), none, (.box 3 (.t 0))⟩, ⟨(some 4), none, (.box 3 (.t 1))⟩, ⟨(some 6), none, (.alloc (.agg [(.flt .f32 0), (.flt .f32 0), (.flt .f32
      0)]))⟩] [2, 3, 4, 6]) (.seq (.seq (.reg [⟨(some 7), none, (.load (some 3) (.t 4))⟩, ⟨(some 8), none, (.load (some 3) (.t 3))⟩, ⟨(some 9), none, (.call (.fn 64) [(.t 7), (.t
      8)] [])⟩, ⟨(some 10), none, (.call (.fn 65) [(.t 9)] [])⟩, ⟨(some 11), none, (.mov (.t 2))⟩, ⟨(some 12), none, (.bin .leq false (.t 10) (.t 11))⟩] [2, 3, 4, 6, 12]) (.cond (.t
      12) (.seq (.reg [⟨(some 13), none, (.load (some 3) (.t 4))⟩, ⟨none, none, (.store 3 (.t 6) (.t 13))⟩] [6]) .ret) .skip)) (.seq (.reg [⟨(some 14), none, (.load (some 3) (.t
      3))⟩, ⟨(some 15), none, (.load (some 3) (.t 4))⟩, ⟨(some 16), none, (.mov (.t 2))⟩, ⟨(some 17), none, (.call (.fn 39) [(.t 14), (.t 15), (.t 16)] [])⟩, ⟨none, none, (.store 3
      (.t 6) (.t 17))⟩] [6]) .ret)))
def cp42 : CP := { n := 18, kp := [[2, 3, 4, 6], [2, 3, 4, 6, 12], [6], [6]] }
theorem s42 : ∀ vs r, g_impl_StepTowards vs = some r → Says Try.prog 42 vs r := by
  intro vs r h
  unfold g_impl_StepTowards at h
  split at h
  · rename_i y0 y1 y2 y3 y4 y5 y6
    split at h
    · rename_i hp
      cases h
      refine spec_of (tab := tabOf [(39, g_impl_PlaceAt), (64, g_impl_LessVectors), (65, g_impl_LongOf)]) (cp := cp42) (ic := ic42) (rvl := [(.c 6 (some 3))]) hm (tabOk_cons s39 (tabOk_cons s64 (tabOk_cons s65 tabOk_nil))) Try.func42 rfl rfl rfl (by kernel_rfl) rfl (Nat.le_of_ble_eq_true rfl) ?_
      show eA _ _ _ _
      unfold ic42
      simp only [p_impl_StepTowards, Bool.and_eq_true, Bool.or_eq_true, decide_eq_true_eq, Bool.not_eq_true', decide_eq_false_iff_not] at hp
      simp only [
          hp, eA_seq, eA_reg, eA_ret, eA_skip, eA_cond, eA_block, eA_exit, eCc_true, eCc_false, Kq_normal, Kq_ret, Kq_exit, Kb_normal, Kb_exit, Kb_ret, Kreg_eq, eI_nil, bindSt_some,
                bindSt_none, bindSt_ite, eR_eq, eGI_tt, eGI_ff, eGI_tf, eGI_ft, eop, vop, ev_t, ev_c, ev_f, Option.map, put_some, put_none, set_eq, setH_eq, get_eq, hp_eq,
                keep_cons, keep_nil, lk_cons, lk_nil, startSt, envOf, reduceIte, Nat.reduceEqDiff, Nat.reduceAdd, Nat.zero_add, Nat.add_zero, Nat.reduceMul, Nat.reduceLT,
                Nat.reduceLeDiff, bop, uop, intop, fltop, convop, true_or, or_true, Bool.false_eq_true, ret_ok, ret_normal, outV, rvV, rvs, ex_some, pureV, pureX, pureX.pure1',
                pure1, Bool.true_and, Bool.false_and, Bool.and_true, Bool.and_false, Option.isNone_none, AV.cells, AV.one, storable, laid, refless, refless1, List.all_cons,
                List.all_nil, List.length_cons, List.length_nil, List.getElem?_cons_zero, List.getElem?_cons_succ, List.set_cons_zero, List.set_cons_succ, List.set_nil,
                List.map_cons, List.map_nil, vload, loadC, storeC, vnil, vfaddr, vextract, callTo, List.mapM_cons, List.mapM_nil, Option.pure_def, Option.bind_eq_bind,
                Option.bind_some, tabOf_cons, flatT, flatE, flatC, and_self, and_true, true_and, implies_true, forall_const, not_true_eq_false, not_false_eq_true, false_implies,
                List.take_succ_cons, List.drop_succ_cons, List.take_zero, List.drop_zero, Bool.not_true, Bool.not_false, beq_self_eq_true, decide_true, decide_false, eq_self,
                Int.reduceEq, Int.reduceLE, Int.reduceLT, Bool.not_not, Bool.true_or, Bool.or_true, Bool.false_or, Bool.or_false, if_true, if_false, List.getElem?_nil, Kl_normal,
                Kl_exit, Kl_ret, bits_i64, cast_lit, toNat_lit, Int.reduceAdd, Int.reduceSub, Int.reduceMul, Int.reduceNeg, Int.reducePow, Nat.reducePow, Int.reduceToNat,
                Nat.reduceSub, Nat.mul_one, Int.toNat_zero, prod_eta, List.nil_append, List.cons_append, List.append_nil, vconv, vmm, vidxA, viaddrA, iaddr_sl, iaddr_lsl, getE,
                vfield, vlen, fillC, fillE, List.replicate, elemsOf, List.length_map, f2iK_eq, bits_i64, bits_i32, bits_u64, bits_u32, bits_u8, e_mov, g_mov, e_alloc, g_alloc,
                e_box, g_box, e_load, g_load, e_store, g_store, e_bin, g_bin, e_call, g_call, g_impl_PlaceAt, g_impl_LessVectors, g_impl_LongOf]
      repeat' (first
        | ((first | (refine eGI_of (fun h => ?_) (fun h => ?_)) | (refine eCc_of (fun h => ?_) (fun h => ?_))) <;> (try simp only [Bool.not_eq_true', Bool.not_eq_false'] at h) <;> (try simp only [h, reduceCtorEq, Bool.not_eq_true', decide_eq_false_iff_not, Bool.not_true, Bool.not_false, Bool.false_or, Bool.true_or, Bool.true_and, Bool.false_and, Bool.and_eq_true, Bool.or_eq_true, if_true, if_false, reduceIte, Bool.false_eq_true, and_true, true_and, false_or, or_false, decide_eq_true_eq, not_false_eq_true, not_true_eq_false] at hp) <;> (try (have h2 := h; simp only [decide_eq_true_eq, decide_eq_false_iff_not] at h2; simp only [h2, if_true, if_false, false_or, true_or, or_true, or_false, and_true, true_and, not_false_eq_true, not_true_eq_false] at hp)) <;> simp only [h,
          hp, eA_seq, eA_reg, eA_ret, eA_skip, eA_cond, eA_block, eA_exit, eCc_true, eCc_false, Kq_normal, Kq_ret, Kq_exit, Kb_normal, Kb_exit, Kb_ret, Kreg_eq, eI_nil, bindSt_some,
                bindSt_none, bindSt_ite, eR_eq, eGI_tt, eGI_ff, eGI_tf, eGI_ft, eop, vop, ev_t, ev_c, ev_f, Option.map, put_some, put_none, set_eq, setH_eq, get_eq, hp_eq,
                keep_cons, keep_nil, lk_cons, lk_nil, startSt, envOf, reduceIte, Nat.reduceEqDiff, Nat.reduceAdd, Nat.zero_add, Nat.add_zero, Nat.reduceMul, Nat.reduceLT,
                Nat.reduceLeDiff, bop, uop, intop, fltop, convop, true_or, or_true, Bool.false_eq_true, ret_ok, ret_normal, outV, rvV, rvs, ex_some, pureV, pureX, pureX.pure1',
                pure1, Bool.true_and, Bool.false_and, Bool.and_true, Bool.and_false, Option.isNone_none, AV.cells, AV.one, storable, laid, refless, refless1, List.all_cons,
                List.all_nil, List.length_cons, List.length_nil, List.getElem?_cons_zero, List.getElem?_cons_succ, List.set_cons_zero, List.set_cons_succ, List.set_nil,
                List.map_cons, List.map_nil, vload, loadC, storeC, vnil, vfaddr, vextract, callTo, List.mapM_cons, List.mapM_nil, Option.pure_def, Option.bind_eq_bind,
                Option.bind_some, tabOf_cons, flatT, flatE, flatC, and_self, and_true, true_and, implies_true, forall_const, not_true_eq_false, not_false_eq_true, false_implies,
                List.take_succ_cons, List.drop_succ_cons, List.take_zero, List.drop_zero, Bool.not_true, Bool.not_false, beq_self_eq_true, decide_true, decide_false, eq_self,
                Int.reduceEq, Int.reduceLE, Int.reduceLT, Bool.not_not, Bool.true_or, Bool.or_true, Bool.false_or, Bool.or_false, if_true, if_false, List.getElem?_nil, Kl_normal,
                Kl_exit, Kl_ret, bits_i64, cast_lit, toNat_lit, Int.reduceAdd, Int.reduceSub, Int.reduceMul, Int.reduceNeg, Int.reducePow, Nat.reducePow, Int.reduceToNat,
                Nat.reduceSub, Nat.mul_one, Int.toNat_zero, prod_eta, List.nil_append, List.cons_append, List.append_nil, vconv, vmm, vidxA, viaddrA, iaddr_sl, iaddr_lsl, getE,
                vfield, vlen, fillC, fillE, List.replicate, elemsOf, List.length_map, f2iK_eq, bits_i64, bits_i32, bits_u64, bits_u32, bits_u8, e_mov, g_mov, e_alloc, g_alloc,
                e_box, g_box, e_load, g_load, e_store, g_store, e_bin, g_bin, e_call, g_call, g_impl_PlaceAt, g_impl_LessVectors, g_impl_LongOf]))
      all_goals (try simp only [*, m_impl_StepTowards, Bool.and_true, Bool.true_and, Bool.and_false, Bool.false_and, Bool.or_true, Bool.true_or, Bool.or_false, Bool.false_or, Bool.not_true, Bool.not_false, Bool.false_eq_true, if_true, if_false, reduceIte, decide_true, decide_false])
      all_goals (try (simp_all; done))
    · cases h
  · cases h
def m_laws_sameFloat (x0 : Nat) (x1 : Nat) : Bool := (if (feq .f64 x0 x0) = true then (if (feq .f64 x1 x1) = true then (if (feq .f64 x0 0) = true then (if (feq .f64 x1 0) = true
      then ((flt .f64 0 (fdiv .f64 4607182418800017408 x0)) == (flt .f64 0 (fdiv .f64 4607182418800017408 x1))) else (feq .f64 x0 x1)) else (feq .f64 x0 x1)) else false) else (!(feq
      .f64 x1 x1)))
def g_laws_sameFloat : List AV → Option AV
  | [.flt .f64 y0, .flt .f64 y1] => some (.bool (m_laws_sameFloat y0 y1))
  | _ => none
def ic61 : ICode := (.seq (.reg [⟨(some 4), none, (.mov (.c (.bool false)))⟩] [0, 1]) (.seq (.seq (.reg [⟨(some 5), none, (.mov (.t 0))⟩, ⟨(some 6), none, (.mov (.t 0))⟩, ⟨(some 7),
      none, (.bin .neq false (.t 5) (.t 6))⟩, ⟨(some 8), none, (.mov (.t 7))⟩, ⟨(some 9), (some (8, false)), (.mov (.t 1))⟩, ⟨(some 10), (some (8, false)), (.mov (.t 1))⟩, ⟨(some
      11), (some (8, false)), (.bin .neq false (.t 9) (.t 10))⟩, ⟨(some 12), none, (.pick (.t 8) (.c (.bool true)) (.t 11))⟩] [0, 1, 12]) (.cond (.t 12) (.seq (.reg [⟨(some 13),
      none, (.mov (.t 0))⟩, ⟨(some 14), none, (.mov (.t 0))⟩, ⟨(some 15), none, (.bin .neq false (.t 13) (.t 14))⟩, ⟨(some 16), none, (.mov (.t 15))⟩, ⟨(some 17), (some (16, true)),
      (.mov (.t 1))⟩, ⟨(some 18), (some (16, true)), (.mov (.t 1))⟩, ⟨(some 19), (some (16, true)), (.bin .neq false (.t 17) (.t 18))⟩, ⟨(some 20), none, (.pick (.t 16) (.t 19) (.c
      (.bool false)))⟩, ⟨(some 4), none, (.mov (.t 20))⟩] [4]) .ret) .skip)) (.seq (.seq (.reg [⟨(some 21), none, (.mov (.t 0))⟩, ⟨(some 22), none, (.bin .eql false (.t 21) (.c
      (.flt .f64 0)))⟩, ⟨(some 23), none, (.mov (.t 22))⟩, ⟨(some 24), (some (23, true)), (.mov (.t 1))⟩, ⟨(some 25), (some (23, true)), (.bin .eql false (.t 24) (.c (.flt .f64
      0)))⟩, ⟨(some 26), none, (.pick (.t 23) (.t 25) (.c (.bool false)))⟩] [0, 1, 26]) (.cond (.t 26) (.seq (.reg [⟨(some 27), none, (.mov (.t 0))⟩, ⟨(some 28), none, (.bin .quo
      false (.c (.flt .f64 4607182418800017408)) (.t 27))⟩, ⟨(some 29), none, (.bin .gtr false (.t 28) (.c (.flt .f64 0)))⟩, ⟨(some 30), none, (.mov (.t 1))⟩, ⟨(some 31), none,
      (.bin .quo false (.c (.flt .f64 4607182418800017408)) (.t 30))⟩, ⟨(some 32), none, (.bin .gtr false (.t 31) (.c (.flt .f64 0)))⟩, ⟨(some 33), none, (.bin .eql true (.t 29) (.t
      32))⟩, ⟨(some 4), none, (.mov (.t 33))⟩] [4]) .ret) .skip)) (.seq (.reg [⟨(some 34), none, (.mov (.t 0))⟩, ⟨(some 35), none, (.mov (.t 1))⟩, ⟨(some 36), none, (.bin .eql false
      (.t 34) (.t 35))⟩, ⟨(some 4), none, (.mov (.t 36))⟩] [4]) .ret))))
def cp61 : CP := { n := 37, kp := [[0, 1], [0, 1, 12], [4], [0, 1, 26], [4], [4]] }
theorem s61 : ∀ vs r, g_laws_sameFloat vs = some r → Says Try.prog 61 vs r := by
  intro vs r h
  unfold g_laws_sameFloat at h
  split at h
  · rename_i y0 y1
    cases h
    refine spec_of (tab := tabOf []) (cp := cp61) (ic := ic61) (rvl := [(.t 4)]) hm tabOk_nil Try.func61 rfl rfl rfl (by kernel_rfl) rfl (Nat.le_of_ble_eq_true rfl) ?_
    show eA _ _ _ _
    unfold ic61
    simp only [
        eA_seq, eA_reg, eA_ret, eA_skip, eA_cond, eA_block, eA_exit, eCc_true, eCc_false, Kq_normal, Kq_ret, Kq_exit, Kb_normal, Kb_exit, Kb_ret, Kreg_eq, eI_nil, bindSt_some,
              bindSt_none, bindSt_ite, eR_eq, eGI_tt, eGI_ff, eGI_tf, eGI_ft, eop, vop, ev_t, ev_c, ev_f, Option.map, put_some, put_none, set_eq, setH_eq, get_eq, hp_eq, keep_cons,
              keep_nil, lk_cons, lk_nil, startSt, envOf, reduceIte, Nat.reduceEqDiff, Nat.reduceAdd, Nat.zero_add, Nat.add_zero, Nat.reduceMul, Nat.reduceLT, Nat.reduceLeDiff, bop,
              uop, intop, fltop, convop, true_or, or_true, Bool.false_eq_true, ret_ok, ret_normal, outV, rvV, rvs, ex_some, pureV, pureX, pureX.pure1', pure1, Bool.true_and,
              Bool.false_and, Bool.and_true, Bool.and_false, Option.isNone_none, AV.cells, AV.one, storable, laid, refless, refless1, List.all_cons, List.all_nil, List.length_cons,
              List.length_nil, List.getElem?_cons_zero, List.getElem?_cons_succ, List.set_cons_zero, List.set_cons_succ, List.set_nil, List.map_cons, List.map_nil, vload, loadC,
              storeC, vnil, vfaddr, vextract, callTo, List.mapM_cons, List.mapM_nil, Option.pure_def, Option.bind_eq_bind, Option.bind_some, tabOf_cons, flatT, flatE, flatC,
              and_self, and_true, true_and, implies_true, forall_const, not_true_eq_false, not_false_eq_true, false_implies, List.take_succ_cons, List.drop_succ_cons,
              List.take_zero, List.drop_zero, Bool.not_true, Bool.not_false, beq_self_eq_true, decide_true, decide_false, eq_self, Int.reduceEq, Int.reduceLE, Int.reduceLT,
              Bool.not_not, Bool.true_or, Bool.or_true, Bool.false_or, Bool.or_false, if_true, if_false, List.getElem?_nil, Kl_normal, Kl_exit, Kl_ret, bits_i64, cast_lit,
              toNat_lit, Int.reduceAdd, Int.reduceSub, Int.reduceMul, Int.reduceNeg, Int.reducePow, Nat.reducePow, Int.reduceToNat, Nat.reduceSub, Nat.mul_one, Int.toNat_zero,
              prod_eta, List.nil_append, List.cons_append, List.append_nil, vconv, vmm, vidxA, viaddrA, iaddr_sl, iaddr_lsl, getE, vfield, vlen, fillC, fillE, List.replicate,
              elemsOf, List.length_map, f2iK_eq, bits_i64, bits_i32, bits_u64, bits_u32, bits_u8, e_mov, g_mov, e_pick, g_pick, e_bin, g_bin, ↓b_pick, ePk_true, ePk_false]
    repeat' (first
      | ((first | (refine eGI_of (fun h => ?_) (fun h => ?_)) | (refine eCc_of (fun h => ?_) (fun h => ?_)) | (refine ePk_of (fun h => ?_) (fun h => ?_))) <;> (try simp only [Bool.not_eq_true', Bool.not_eq_false'] at h) <;> simp only [h,
        eA_seq, eA_reg, eA_ret, eA_skip, eA_cond, eA_block, eA_exit, eCc_true, eCc_false, Kq_normal, Kq_ret, Kq_exit, Kb_normal, Kb_exit, Kb_ret, Kreg_eq, eI_nil, bindSt_some,
              bindSt_none, bindSt_ite, eR_eq, eGI_tt, eGI_ff, eGI_tf, eGI_ft, eop, vop, ev_t, ev_c, ev_f, Option.map, put_some, put_none, set_eq, setH_eq, get_eq, hp_eq, keep_cons,
              keep_nil, lk_cons, lk_nil, startSt, envOf, reduceIte, Nat.reduceEqDiff, Nat.reduceAdd, Nat.zero_add, Nat.add_zero, Nat.reduceMul, Nat.reduceLT, Nat.reduceLeDiff, bop,
              uop, intop, fltop, convop, true_or, or_true, Bool.false_eq_true, ret_ok, ret_normal, outV, rvV, rvs, ex_some, pureV, pureX, pureX.pure1', pure1, Bool.true_and,
              Bool.false_and, Bool.and_true, Bool.and_false, Option.isNone_none, AV.cells, AV.one, storable, laid, refless, refless1, List.all_cons, List.all_nil, List.length_cons,
              List.length_nil, List.getElem?_cons_zero, List.getElem?_cons_succ, List.set_cons_zero, List.set_cons_succ, List.set_nil, List.map_cons, List.map_nil, vload, loadC,
              storeC, vnil, vfaddr, vextract, callTo, List.mapM_cons, List.mapM_nil, Option.pure_def, Option.bind_eq_bind, Option.bind_some, tabOf_cons, flatT, flatE, flatC,
              and_self, and_true, true_and, implies_true, forall_const, not_true_eq_false, not_false_eq_true, false_implies, List.take_succ_cons, List.drop_succ_cons,
              List.take_zero, List.drop_zero, Bool.not_true, Bool.not_false, beq_self_eq_true, decide_true, decide_false, eq_self, Int.reduceEq, Int.reduceLE, Int.reduceLT,
              Bool.not_not, Bool.true_or, Bool.or_true, Bool.false_or, Bool.or_false, if_true, if_false, List.getElem?_nil, Kl_normal, Kl_exit, Kl_ret, bits_i64, cast_lit,
              toNat_lit, Int.reduceAdd, Int.reduceSub, Int.reduceMul, Int.reduceNeg, Int.reducePow, Nat.reducePow, Int.reduceToNat, Nat.reduceSub, Nat.mul_one, Int.toNat_zero,
              prod_eta, List.nil_append, List.cons_append, List.append_nil, vconv, vmm, vidxA, viaddrA, iaddr_sl, iaddr_lsl, getE, vfield, vlen, fillC, fillE, List.replicate,
              elemsOf, List.length_map, f2iK_eq, bits_i64, bits_i32, bits_u64, bits_u32, bits_u8, e_mov, g_mov, e_pick, g_pick, e_bin, g_bin, ↓b_pick, ePk_true, ePk_false]))
    all_goals (try simp only [*, m_laws_sameFloat, Bool.and_true, Bool.true_and, Bool.and_false, Bool.false_and, Bool.or_true, Bool.true_or, Bool.or_false, Bool.false_or, Bool.not_true, Bool.not_false, Bool.false_eq_true, if_true, if_false, reduceIte, decide_true, decide_false])
    all_goals (try (simp_all; done))
  · cases h
def m_laws_eqVector (x0 : (Nat × Nat × Nat)) (x1 : (Nat × Nat × Nat)) : Bool := (if (m_laws_sameFloat (widen x0.1) (widen x1.1)) = true then (if (m_laws_sameFloat (widen x0.2.1)
      (widen x1.2.1)) = true then (if (m_laws_sameFloat (widen x0.2.2) (widen x1.2.2)) = true then true else false) else false) else false)
def g_laws_eqVector : List AV → Option AV
  | [.agg [.flt .f32 y0, .flt .f32 y1, .flt .f32 y2], .agg [.flt .f32 y3, .flt .f32 y4, .flt .f32 y5]] => some (.bool (m_laws_eqVector (y0,
      y1, y2) (y3, y4, y5)))
  | _ => none
def ic40 : ICode := (.seq (.reg [⟨(some 2), none, (.box 3 (.t 0))⟩, ⟨(some 3), none, (.box 3 (.t 1))⟩, ⟨(some 4), none, (.mov (.c (.bool false)))⟩] [2, 3]) (.seq (.seq (.reg [⟨(some
      5), none, (.faddr 0 (.t 2))⟩, ⟨(some 6), none, (.load none (.t 5))⟩, ⟨(some 7), none, (.conv (.flt .f64) (.t 6))⟩, ⟨(some 8), none, (.faddr 0 (.t 3))⟩, ⟨(some 9), none, (.load
      none (.t 8))⟩, ⟨(some 10), none, (.conv (.flt .f64) (.t 9))⟩, ⟨(some 11), none, (.call (.fn 61) [(.t 7), (.t 10)] [])⟩, ⟨(some 12), none, (.un .not (.t 11))⟩] [2, 3, 12])
      (.cond (.t 12) (.seq (.reg [⟨(some 4), none, (.mov (.c (.bool false)))⟩] [4]) .ret) .skip)) (.seq (.seq (.reg [⟨(some 13), none, (.faddr 1 (.t 2))⟩, ⟨(some 14), none, (.load
      none (.t 13))⟩, ⟨(some 15), none, (.conv (.flt .f64) (.t 14))⟩, ⟨(some 16), none, (.faddr 1 (.t 3))⟩, ⟨(some 17), none, (.load none (.t 16))⟩, ⟨(some 18), none, (.conv (.flt
      .f64) (.t 17))⟩, ⟨(some 19), none, (.call (.fn 61) [(.t 15), (.t 18)] [])⟩, ⟨(some 20), none, (.un .not (.t 19))⟩] [2, 3, 20]) (.cond (.t 20) (.seq (.reg [⟨(some 4), none,
      (.mov (.c (.bool false)))⟩] [4]) .ret) .skip)) (.seq (.seq (.reg [⟨(some 21), none, (.faddr 2 (.t 2))⟩, ⟨(some 22), none, (.load none (.t 21))⟩, ⟨(some 23), none, (.conv (.flt
      .f64) (.t 22))⟩, ⟨(some 24), none, (.faddr 2 (.t 3))⟩, ⟨(some 25), none, (.load none (.t 24))⟩, ⟨(some 26), none, (.conv (.flt .f64) (.t 25))⟩, ⟨(some 27), none, (.call (.fn
      61) [(.t 23), (.t 26)] [])⟩, ⟨(some 28), none, (.un .not (.t 27))⟩] [28]) (.cond (.t 28) (.seq (.reg [⟨(some 4), none, (.mov (.c (.bool false)))⟩] [4]) .ret) .skip)) (.seq
      (.reg [⟨(some 4), none, (.mov (.c (.bool true)))⟩] [4]) .ret)))))
def cp40 : CP := { n := 29, kp := [[2, 3], [2, 3, 12], [4], [2, 3, 20], [4], [28], [4], [4]] }
theorem s40 : ∀ vs r, g_laws_eqVector vs = some r → Says Try.prog 40 vs r := by
  intro vs r h
  unfold g_laws_eqVector at h
  split at h
  · rename_i y0 y1 y2 y3 y4 y5
    cases h
    refine spec_of (tab := tabOf [(61, g_laws_sameFloat)]) (cp := cp40) (ic := ic40) (rvl := [(.t 4)]) hm (tabOk_cons s61 tabOk_nil) Try.func40 rfl rfl rfl (by kernel_rfl) rfl (Nat.le_of_ble_eq_true rfl) ?_
    show eA _ _ _ _
    unfold ic40
    simp only [
        eA_seq, eA_reg, eA_ret, eA_skip, eA_cond, eA_block, eA_exit, eCc_true, eCc_false, Kq_normal, Kq_ret, Kq_exit, Kb_normal, Kb_exit, Kb_ret, Kreg_eq, eI_nil, bindSt_some,
              bindSt_none, bindSt_ite, eR_eq, eGI_tt, eGI_ff, eGI_tf, eGI_ft, eop, vop, ev_t, ev_c, ev_f, Option.map, put_some, put_none, set_eq, setH_eq, get_eq, hp_eq, keep_cons,
              keep_nil, lk_cons, lk_nil, startSt, envOf, reduceIte, Nat.reduceEqDiff, Nat.reduceAdd, Nat.zero_add, Nat.add_zero, Nat.reduceMul, Nat.reduceLT, Nat.reduceLeDiff, bop,
              uop, intop, fltop, convop, true_or, or_true, Bool.false_eq_true, ret_ok, ret_normal, outV, rvV, rvs, ex_some, pureV, pureX, pureX.pure1', pure1, Bool.true_and,
              Bool.false_and, Bool.and_true, Bool.and_false, Option.isNone_none, AV.cells, AV.one, storable, laid, refless, refless1, List.all_cons, List.all_nil, List.length_cons,
              List.length_nil, List.getElem?_cons_zero, List.getElem?_cons_succ, List.set_cons_zero, List.set_cons_succ, List.set_nil, List.map_cons, List.map_nil, vload, loadC,
              storeC, vnil, vfaddr, vextract, callTo, List.mapM_cons, List.mapM_nil, Option.pure_def, Option.bind_eq_bind, Option.bind_some, tabOf_cons, flatT, flatE, flatC,
              and_self, and_true, true_and, implies_true, forall_const, not_true_eq_false, not_false_eq_true, false_implies, List.take_succ_cons, List.drop_succ_cons,
              List.take_zero, List.drop_zero, Bool.not_true, Bool.not_false, beq_self_eq_true, decide_true, decide_false, eq_self, Int.reduceEq, Int.reduceLE, Int.reduceLT,
              Bool.not_not, Bool.true_or, Bool.or_true, Bool.false_or, Bool.or_false, if_true, if_false, List.getElem?_nil, Kl_normal, Kl_exit, Kl_ret, bits_i64, cast_lit,
              toNat_lit, Int.reduceAdd, Int.reduceSub, Int.reduceMul, Int.reduceNeg, Int.reducePow, Nat.reducePow, Int.reduceToNat, Nat.reduceSub, Nat.mul_one, Int.toNat_zero,
              prod_eta, List.nil_append, List.cons_append, List.append_nil, vconv, vmm, vidxA, viaddrA, iaddr_sl, iaddr_lsl, getE, vfield, vlen, fillC, fillE, List.replicate,
              elemsOf, List.length_map, f2iK_eq, bits_i64, bits_i32, bits_u64, bits_u32, bits_u8, e_mov, g_mov, e_box, g_box, e_load, g_load, e_un, g_un, e_conv, g_conv, e_faddr,
              g_faddr, e_call, g_call, g_laws_sameFloat]
    repeat' (first
      | ((first | (refine eGI_of (fun h => ?_) (fun h => ?_)) | (refine eCc_of (fun h => ?_) (fun h => ?_))) <;> (try simp only [Bool.not_eq_true', Bool.not_eq_false'] at h) <;> simp only [h,
        eA_seq, eA_reg, eA_ret, eA_skip, eA_cond, eA_block, eA_exit, eCc_true, eCc_false, Kq_normal, Kq_ret, Kq_exit, Kb_normal, Kb_exit, Kb_ret, Kreg_eq, eI_nil, bindSt_some,
              bindSt_none, bindSt_ite, eR_eq, eGI_tt, eGI_ff, eGI_tf, eGI_ft, eop, vop, ev_t, ev_c, ev_f, Option.map, put_some, put_none, set_eq, setH_eq, get_eq, hp_eq, keep_cons,
              keep_nil, lk_cons, lk_nil, startSt, envOf, reduceIte, Nat.reduceEqDiff, Nat.reduceAdd, Nat.zero_add, Nat.add_zero, Nat.reduceMul, Nat.reduceLT, Nat.reduceLeDiff, bop,
              uop, intop, fltop, convop, true_or, or_true, Bool.false_eq_true, ret_ok, ret_normal, outV, rvV, rvs, ex_some, pureV, pureX, pureX.pure1', pure1, Bool.true_and,
              Bool.false_and, Bool.and_true, Bool.and_false, Option.isNone_none, AV.cells, AV.one, storable, laid, refless, refless1, List.all_cons, List.all_nil, List.length_cons,
              List.length_nil, List.getElem?_cons_zero, List.getElem?_cons_succ, List.set_cons_zero, List.set_cons_succ, List.set_nil, List.map_cons, List.map_nil, vload, loadC,
              storeC, vnil, vfaddr, vextract, callTo, List.mapM_cons, List.mapM_nil, Option.pure_def, Option.bind_eq_bind, Option.bind_some, tabOf_cons, flatT, flatE, flatC,
              and_self, and_true, true_and, implies_true, forall_const, not_true_eq_false, not_false_eq_true, false_implies, List.take_succ_cons, List.drop_succ_cons,
              List.take_zero, List.drop_zero, Bool.not_true, Bool.not_false, beq_self_eq_true, decide_true, decide_false, eq_self, Int.reduceEq, Int.reduceLE, Int.reduceLT,
              Bool.not_not, Bool.true_or, Bool.or_true, Bool.false_or, Bool.or_false, if_true, if_false, List.getElem?_nil, Kl_normal, Kl_exit, Kl_ret, bits_i64, cast_lit,
              toNat_lit, Int.reduceAdd, Int.reduceSub, Int.reduceMul, Int.reduceNeg, Int.reducePow, Nat.reducePow, Int.reduceToNat, Nat.reduceSub, Nat.mul_one, Int.toNat_zero,
              prod_eta, List.nil_append, List.cons_append, List.append_nil, vconv, vmm, vidxA, viaddrA, iaddr_sl, iaddr_lsl, getE, vfield, vlen, fillC, fillE, List.replicate,
              elemsOf, List.length_map, f2iK_eq, bits_i64, bits_i32, bits_u64, bits_u32, bits_u8, e_mov, g_mov, e_box, g_box, e_load, g_load, e_un, g_un, e_conv, g_conv, e_faddr,
              g_faddr, e_call, g_call, g_laws_sameFloat]))
    all_goals (try simp only [*, m_laws_eqVector, Bool.and_true, Bool.true_and, Bool.and_false, Bool.false_and, Bool.or_true, Bool.true_or, Bool.or_false, Bool.false_or, Bool.not_true, Bool.not_false, Bool.false_eq_true, if_true, if_false, reduceIte, decide_true, decide_false])
    all_goals (try (simp_all; done))
  · cases h
def m_laws_FnExactStepTowards (x0 : (Nat × Nat × Nat)) (x1 : (Nat × Nat × Nat)) (x2 : Nat) : Bool := (if (m_laws_eqVector (m_impl_StepTowards (m_laws_toVector x0) (m_laws_toVector
      x1) x2) (m_spec_StepTowards (m_laws_toVector x0) (m_laws_toVector x1) x2)) = true then true else false)
def p_laws_FnExactStepTowards (x0 : (Nat × Nat × Nat)) (x1 : (Nat × Nat × Nat)) (x2 : Nat) : Bool := ((p_spec_StepTowards (m_laws_toVector x0) (m_laws_toVector x1) x2) &&
      (p_impl_StepTowards (m_laws_toVector x0) (m_laws_toVector x1) x2))
def g_laws_FnExactStepTowards : List AV → Option AV
  | [.agg [.flt .f32 y0, .flt .f32 y1, .flt .f32 y2], .agg [.flt .f32 y3, .flt .f32 y4, .flt .f32 y5], .flt .f32 y6] => if
      p_laws_FnExactStepTowards (y0, y1, y2) (y3, y4, y5) y6 = true then some (.bool (m_laws_FnExactStepTowards (y0, y1, y2) (y3, y4, y5) y6)) else none
  | _ => none
def ic7 : ICode := (.seq (.reg [⟨(some 3), none, (.box 3 (.t 0))⟩, ⟨(some 4), none, (.box 3 (.t 1))⟩, ⟨(some 6), none, (.mov (.c (.bool false)))⟩] [2, 3, 4]) (.seq (.reg [⟨(some 9),
      none, (.load (some 3) (.t 3))⟩, ⟨(some 10), none, (.call (.fn 38) [(.t 9)] [])⟩, ⟨(some 11), none, (.load (some 3) (.t 4))⟩, ⟨(some 12), none, (.call (.fn 38) [(.t 11)] [])⟩,
      ⟨(some 13), none, (.mov (.t 2))⟩, ⟨(some 14), none, (.call (.fn 41) [(.t 10), (.t 12), (.t 13)] [])⟩, ⟨(some 7), none, (.alloc (.agg [(.flt .f32 0), (.flt .f32 0), (.flt .f32
      0)]))⟩, ⟨none, none, (.store 3 (.t 7) (.t 14))⟩] [2, 3, 4, 7]) (.seq (.reg [⟨(some 15), none, (.load (some 3) (.t 3))⟩, ⟨(some 16), none, (.call (.fn 38) [(.t 15)] [])⟩,
      ⟨(some 17), none, (.load (some 3) (.t 4))⟩, ⟨(some 18), none, (.call (.fn 38) [(.t 17)] [])⟩, ⟨(some 19), none, (.mov (.t 2))⟩, ⟨(some 20), none, (.call (.fn 42) [(.t 16), (.t
      18), (.t 19)] [])⟩, ⟨(some 8), none, (.alloc (.agg [(.flt .f32 0), (.flt .f32 0), (.flt .f32 0)]))⟩, ⟨none, none, (.store 3 (.t 8) (.t 20))⟩] [7, 8]) (.seq (.seq (.reg [⟨(some
      21), none, (.load (some 3) (.t 8))⟩, ⟨(some 22), none, (.load (some 3) (.t 7))⟩, ⟨(some 23), none, (.call (.fn 40) [(.t 21), (.t 22)] [])⟩, ⟨(some 24), none, (.un .not (.t
      23))⟩] [24]) (.cond (.t 24) (.seq (.reg [⟨(some 6), none, (.mov (.c (.bool false)))⟩] [6]) .ret) .skip)) (.seq (.reg [⟨(some 6), none, (.mov (.c (.bool true)))⟩] [6])
      .ret)))))
def cp7 : CP := { n := 25, kp := [[2, 3, 4], [2, 3, 4, 7], [7, 8], [24], [6], [6]] }
theorem s7 : ∀ vs r, g_laws_FnExactStepTowards vs = some r → Says Try.prog 7 vs r := by
  intro vs r h
  unfold g_laws_FnExactStepTowards at h
  split at h
  · rename_i y0 y1 y2 y3 y4 y5 y6
    split at h
    · rename_i hp
      cases h
      refine spec_of (tab := tabOf [(38, g_laws_toVector), (40, g_laws_eqVector), (41, g_spec_StepTowards), (42, g_impl_StepTowards)]) (cp := cp7) (ic := ic7) (rvl := [(.t 6)]) hm (tabOk_cons s38 (tabOk_cons s40 (tabOk_cons s41 (tabOk_cons s42 tabOk_nil)))) Try.func7 rfl rfl rfl (by kernel_rfl) rfl (Nat.le_of_ble_eq_true rfl) ?_
      show eA _ _ _ _
      unfold ic7
      simp only [p_laws_FnExactStepTowards, Bool.and_eq_true, Bool.or_eq_true, decide_eq_true_eq, Bool.not_eq_true', decide_eq_false_iff_not] at hp
      simp only [
          hp, eA_seq, eA_reg, eA_ret, eA_skip, eA_cond, eA_block, eA_exit, eCc_true, eCc_false, Kq_normal, Kq_ret, Kq_exit, Kb_normal, Kb_exit, Kb_ret, Kreg_eq, eI_nil, bindSt_some,
                bindSt_none, bindSt_ite, eR_eq, eGI_tt, eGI_ff, eGI_tf, eGI_ft, eop, vop, ev_t, ev_c, ev_f, Option.map, put_some, put_none, set_eq, setH_eq, get_eq, hp_eq,
                keep_cons, keep_nil, lk_cons, lk_nil, startSt, envOf, reduceIte, Nat.reduceEqDiff, Nat.reduceAdd, Nat.zero_add, Nat.add_zero, Nat.reduceMul, Nat.reduceLT,
                Nat.reduceLeDiff, bop, uop, intop, fltop, convop, true_or, or_true, Bool.false_eq_true, ret_ok, ret_normal, outV, rvV, rvs, ex_some, pureV, pureX, pureX.pure1',
                pure1, Bool.true_and, Bool.false_and, Bool.and_true, Bool.and_false, Option.isNone_none, AV.cells, AV.one, storable, laid, refless, refless1, List.all_cons,
                List.all_nil, List.length_cons, List.length_nil, List.getElem?_cons_zero, List.getElem?_cons_succ, List.set_cons_zero, List.set_cons_succ, List.set_nil,
                List.map_cons, List.map_nil, vload, loadC, storeC, vnil, vfaddr, vextract, callTo, List.mapM_cons, List.mapM_nil, Option.pure_def, Option.bind_eq_bind,
                Option.bind_some, tabOf_cons, flatT, flatE, flatC, and_self, and_true, true_and, implies_true, forall_const, not_true_eq_false, not_false_eq_true, false_implies,
                List.take_succ_cons, List.drop_succ_cons, List.take_zero, List.drop_zero, Bool.not_true, Bool.not_false, beq_self_eq_true, decide_true, decide_false, eq_self,
                Int.reduceEq, Int.reduceLE, Int.reduceLT, Bool.not_not, Bool.true_or, Bool.or_true, Bool.false_or, Bool.or_false, if_true, if_false, List.getElem?_nil, Kl_normal,
                Kl_exit, Kl_ret, bits_i64, cast_lit, toNat_lit, Int.reduceAdd, Int.reduceSub, Int.reduceMul, Int.reduceNeg, Int.reducePow, Nat.reducePow, Int.reduceToNat,
                Nat.reduceSub, Nat.mul_one, Int.toNat_zero, prod_eta, List.nil_append, List.cons_append, List.append_nil, vconv, vmm, vidxA, viaddrA, iaddr_sl, iaddr_lsl, getE,
                vfield, vlen, fillC, fillE, List.replicate, elemsOf, List.length_map, f2iK_eq, bits_i64, bits_i32, bits_u64, bits_u32, bits_u8, e_mov, g_mov, e_alloc, g_alloc,
                e_box, g_box, e_load, g_load, e_store, g_store, e_un, g_un, e_call, g_call, g_laws_toVector, g_laws_eqVector, g_spec_StepTowards, g_impl_StepTowards]
      repeat' (first
        | ((first | (refine eGI_of (fun h => ?_) (fun h => ?_)) | (refine eCc_of (fun h => ?_) (fun h => ?_))) <;> (try simp only [Bool.not_eq_true', Bool.not_eq_false'] at h) <;> (try simp only [h, reduceCtorEq, Bool.not_eq_true', decide_eq_false_iff_not, Bool.not_true, Bool.not_false, Bool.false_or, Bool.true_or, Bool.true_and, Bool.false_and, Bool.and_eq_true, Bool.or_eq_true, if_true, if_false, reduceIte, Bool.false_eq_true, and_true, true_and, false_or, or_false, decide_eq_true_eq, not_false_eq_true, not_true_eq_false] at hp) <;> (try (have h2 := h; simp only [decide_eq_true_eq, decide_eq_false_iff_not] at h2; simp only [h2, if_true, if_false, false_or, true_or, or_true, or_false, and_true, true_and, not_false_eq_true, not_true_eq_false] at hp)) <;> simp only [h,
          hp, eA_seq, eA_reg, eA_ret, eA_skip, eA_cond, eA_block, eA_exit, eCc_true, eCc_false, Kq_normal, Kq_ret, Kq_exit, Kb_normal, Kb_exit, Kb_ret, Kreg_eq, eI_nil, bindSt_some,
                bindSt_none, bindSt_ite, eR_eq, eGI_tt, eGI_ff, eGI_tf, eGI_ft, eop, vop, ev_t, ev_c, ev_f, Option.map, put_some, put_none, set_eq, setH_eq, get_eq, hp_eq,
                keep_cons, keep_nil, lk_cons, lk_nil, startSt, envOf, reduceIte, Nat.reduceEqDiff, Nat.reduceAdd, Nat.zero_add, Nat.add_zero, Nat.reduceMul, Nat.reduceLT,
                Nat.reduceLeDiff, bop, uop, intop, fltop, convop, true_or, or_true, Bool.false_eq_true, ret_ok, ret_normal, outV, rvV, rvs, ex_some, pureV, pureX, pureX.pure1',
                pure1, Bool.true_and, Bool.false_and, Bool.and_true, Bool.and_false, Option.isNone_none, AV.cells, AV.one, storable, laid, refless, refless1, List.all_cons,
                List.all_nil, List.length_cons, List.length_nil, List.getElem?_cons_zero, List.getElem?_cons_succ, List.set_cons_zero, List.set_cons_succ, List.set_nil,
                List.map_cons, List.map_nil, vload, loadC, storeC, vnil, vfaddr, vextract, callTo, List.mapM_cons, List.mapM_nil, Option.pure_def, Option.bind_eq_bind,
                Option.bind_some, tabOf_cons, flatT, flatE, flatC, and_self, and_true, true_and, implies_true, forall_const, not_true_eq_false, not_false_eq_true, false_implies,
                List.take_succ_cons, List.drop_succ_cons, List.take_zero, List.drop_zero, Bool.not_true, Bool.not_false, beq_self_eq_true, decide_true, decide_false, eq_self,
                Int.reduceEq, Int.reduceLE, Int.reduceLT, Bool.not_not, Bool.true_or, Bool.or_true, Bool.false_or, Bool.or_false, if_true, if_false, List.getElem?_nil, Kl_normal,
                Kl_exit, Kl_ret, bits_i64, cast_lit, toNat_lit, Int.reduceAdd, Int.reduceSub, Int.reduceMul, Int.reduceNeg, Int.reducePow, Nat.reducePow, Int.reduceToNat,
                Nat.reduceSub, Nat.mul_one, Int.toNat_zero, prod_eta, List.nil_append, List.cons_append, List.append_nil, vconv, vmm, vidxA, viaddrA, iaddr_sl, iaddr_lsl, getE,
                vfield, vlen, fillC, fillE, List.replicate, elemsOf, List.length_map, f2iK_eq, bits_i64, bits_i32, bits_u64, bits_u32, bits_u8, e_mov, g_mov, e_alloc, g_alloc,
                e_box, g_box, e_load, g_load, e_store, g_store, e_un, g_un, e_call, g_call, g_laws_toVector, g_laws_eqVector, g_spec_StepTowards, g_impl_StepTowards]))
      all_goals (try simp only [*, m_laws_FnExactStepTowards, Bool.and_true, Bool.true_and, Bool.and_false, Bool.false_and, Bool.or_true, Bool.true_or, Bool.or_false, Bool.false_or, Bool.not_true, Bool.not_false, Bool.false_eq_true, if_true, if_false, reduceIte, decide_true, decide_false])
      all_goals (try (simp_all; done))
    · cases h
  · cases h
end Go.Proofs
namespace Go.Proofs
open Go.Ab
theorem sameFloat_refl (x : Nat) : m_laws_sameFloat x x = true := by
  unfold m_laws_sameFloat
  by_cases h : feq .f64 x x = true
  · simp [h]
  · simp [h]
theorem eqVector_refl (x : Nat × Nat × Nat) : m_laws_eqVector x x = true := by
  unfold m_laws_eqVector
  simp [sameFloat_refl]
end Go.Proofs
namespace Go.Proofs
open Go.Ab
theorem pLong (v : Nat × Nat × Nat) : p_spec_l01Long v = true := sqrt_narrow _
theorem pLongOf (v : Nat × Nat × Nat) : p_impl_LongOf v = true := sqrt_narrow _
theorem long_eq (v : Nat × Nat × Nat) : m_spec_l01Long v = m_impl_LongOf v := rfl
theorem less_eq (v w : Nat × Nat × Nat) : m_spec_l01Less v w = m_impl_LessVectors v w := rfl
theorem add_eq (v w : Nat × Nat × Nat) : m_spec_l01Add v w = m_impl_AddVectors v w := rfl
theorem scale_eq (v : Nat × Nat × Nat) (x : Nat) : m_spec_l01Scale v x = m_impl_ScaleVector v x := rfl
theorem isLength_eq (n : Nat) : m_impl_isLength n = (!(feq .f32 n 0) && m_spec_l01Finite n) := by
  unfold m_impl_isLength
  show (if m_spec_l01Finite n = true then _ else _) = _
  cases m_spec_l01Finite n <;> simp
end Go.Proofs
namespace Go.Proofs
open Go.Ab
theorem place_eq (a b : Nat × Nat × Nat) (x : Nat) : m_spec_l04Place a b x = m_impl_PlaceAt a b x := by
  unfold m_spec_l04Place m_impl_PlaceAt
  rw [isLength_eq, long_eq, less_eq, scale_eq, add_eq]
  generalize m_impl_LongOf (m_impl_LessVectors b a) = n
  cases feq .f32 n 0 <;> cases m_spec_l01Finite n <;> simp
theorem pPlace (a b : Nat × Nat × Nat) (x : Nat) : p_spec_l04Place a b x = true := pLong _
theorem pPlaceAt (a b : Nat × Nat × Nat) (x : Nat) : p_impl_PlaceAt a b x = true := pLongOf _
end Go.Proofs
namespace Go.Proofs
open Go.Ab
theorem law_StepTowards (a b c : Nat) (_ : Canon .f32 a) (_ : Canon .f32 b) (_ : Canon .f32 c) (d e f : Nat) (_ : Canon .f32 d) (_ : Canon .f32 e) (_ : Canon .f32 f) (x : Nat) (_ : Canon .f32 x) :
    g_laws_FnExactStepTowards [.agg [.flt .f32 a, .flt .f32 b, .flt .f32 c], .agg [.flt .f32 d, .flt .f32 e, .flt .f32 f], .flt .f32 x] = some (.bool true) := by
  have h1 : p_laws_FnExactStepTowards (a, b, c) (d, e, f) x = true := by
    unfold p_laws_FnExactStepTowards p_spec_StepTowards p_impl_StepTowards
    rw [pLong, pLongOf, pPlace, pPlaceAt]; simp
  have h2 : m_laws_FnExactStepTowards (a, b, c) (d, e, f) x = true := by
    unfold m_laws_FnExactStepTowards m_spec_StepTowards m_impl_StepTowards
    rw [place_eq, long_eq, less_eq, eqVector_refl]; rfl
  unfold g_laws_FnExactStepTowards
  simp [h1, h2]
end Go.Proofs
