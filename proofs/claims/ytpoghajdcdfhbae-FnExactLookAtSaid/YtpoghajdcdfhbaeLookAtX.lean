/- What functions that FnExactLookAt reaches compute, and that the program's and the reference's answers are the same. No conditions. -/
import Derived.Test.YtpoghajdcdfhbaeLookAtY1
set_option maxRecDepth 100000
set_option maxHeartbeats 4000000
set_option linter.all false
namespace Go.Proofs
open Go.Ab
theorem s94 : ∀ vs r, g_impl_placesOf vs = some r → Says Try.prog 94 vs r := by
  intro vs r h
  unfold g_impl_placesOf at h
  split at h
  · rename_i y0
    cases h
    refine spec_of (tab := tabOf [(103, g_math_Trunc)]) (cp := cp94) (ic := ic94) (rvl := [(.t 2)]) hm (tabOk_cons s103 tabOk_nil) Try.func94 rfl rfl rfl (by kernel_rfl) rfl (Nat.le_of_ble_eq_true rfl) ?_
    show eA _ _ _ _
    unfold ic94
    simp only [
        eA_seq, eA_reg, eA_ret, eA_skip, eA_cond, eA_block, eA_exit, eCc_true, eCc_false, Kq_normal, Kq_ret, Kq_exit, Kb_normal, Kb_exit, Kb_ret, Kreg_eq, eI_nil, bindSt_some,
              bindSt_none, bindSt_ite, eR_eq, eGI_tt, eGI_ff, eGI_tf, eGI_ft, eop, vop, ev_t, ev_c, ev_f, Option.map, put_some, put_none, set_eq, setH_eq, get_eq, hp_eq, keep_cons,
              keep_nil, lk_cons, lk_nil, startSt, envOf, reduceIte, Nat.reduceEqDiff, Nat.reduceAdd, Nat.zero_add, Nat.add_zero, Nat.reduceMul, Nat.reduceLT, Nat.reduceLeDiff, bop,
              uop, intop, fltop, convop, true_or, or_true, Bool.false_eq_true, ret_ok, ret_normal, outV, rvV, rvs, ex_some, pureV, pureX, pureX.pure1', pure1, Bool.true_and,
              Bool.false_and, Bool.and_true, Bool.and_false, Option.isNone_none, AV.cells, AV.one, storable, laid, refless, refless1, List.all_cons, List.all_nil, List.length_cons,
              List.length_nil, List.getElem?_cons_zero, List.getElem?_cons_succ, List.set_cons_zero, List.set_cons_succ, List.set_nil, List.map_cons, List.map_nil, vload, loadC,
              storeC, vnil, vfaddr, vextract, callTo, List.mapM_cons, List.mapM_nil, Option.pure_def, Option.bind_eq_bind, Option.bind_some, tabOf_cons, flatT, flatE, flatC,
              and_self, and_true, true_and, implies_true, forall_const, not_true_eq_false, not_false_eq_true, false_implies, List.take_succ_cons, List.drop_succ_cons,
              List.take_zero, List.drop_zero, Bool.not_true, Bool.not_false, beq_self_eq_true, decide_true, decide_false, eq_self, Int.reduceEq, Int.reduceLE, Int.reduceLT,
              Bool.not_not, Bool.true_or, Bool.or_true, Bool.false_or, Bool.or_false, if_true, if_false, List.getElem?_nil, Kl_normal, Kl_exit, Kl_ret, fc94_0, fc94_1, fc94_2,
              fc94_3, fc94_4, fc94_5, fc94_6, fc94_7, fc94_8, fc94_9, fc94_10, fc94_11, fc94_12, fc94_13, fc94_14, fc94_15, fc94_16, fc94_17, fc94_18, fc94_19, fc94_20, fc94_21,
              fc94_22, fc94_23, fc94_24, fc94_25, cast_lit, toNat_lit, Int.reduceAdd, Int.reduceSub, Int.reduceMul, Int.reduceNeg, Int.reducePow, Nat.reducePow, Int.reduceToNat,
              Nat.reduceSub, Nat.mul_one, Int.toNat_zero, prod_eta, List.nil_append, List.cons_append, List.append_nil, Int.le_refl, Nat.le_refl, true_implies, take_all, vconv, vmm,
              vidxA, viaddrA, iaddr_sl, iaddr_lsl, getE, vfield, vlen, fillC, fillE, List.replicate, elemsOf, List.length_map, f2iK_eq, bits_i64, bits_i32, bits_u64, bits_u32,
              bits_u8, e_mov, g_mov, e_bin, g_bin, e_call, g_call, g_math_Trunc, dF32_map, dF64_map, dI64_map, dU8_map, dBool_map, dStr_map, decL, dF32, dF64, dI64, dU8, dBool, dStr]
    repeat' (first
      | ((first | (refine eGI_of (fun h => ?_) (fun h => ?_)) | (refine eCc_of (fun h => ?_) (fun h => ?_))) <;> (try simp only [Bool.not_eq_true', Bool.not_eq_false'] at h) <;> simp only [h,
        eA_seq, eA_reg, eA_ret, eA_skip, eA_cond, eA_block, eA_exit, eCc_true, eCc_false, Kq_normal, Kq_ret, Kq_exit, Kb_normal, Kb_exit, Kb_ret, Kreg_eq, eI_nil, bindSt_some,
              bindSt_none, bindSt_ite, eR_eq, eGI_tt, eGI_ff, eGI_tf, eGI_ft, eop, vop, ev_t, ev_c, ev_f, Option.map, put_some, put_none, set_eq, setH_eq, get_eq, hp_eq, keep_cons,
              keep_nil, lk_cons, lk_nil, startSt, envOf, reduceIte, Nat.reduceEqDiff, Nat.reduceAdd, Nat.zero_add, Nat.add_zero, Nat.reduceMul, Nat.reduceLT, Nat.reduceLeDiff, bop,
              uop, intop, fltop, convop, true_or, or_true, Bool.false_eq_true, ret_ok, ret_normal, outV, rvV, rvs, ex_some, pureV, pureX, pureX.pure1', pure1, Bool.true_and,
              Bool.false_and, Bool.and_true, Bool.and_false, Option.isNone_none, AV.cells, AV.one, storable, laid, refless, refless1, List.all_cons, List.all_nil, List.length_cons,
              List.length_nil, List.getElem?_cons_zero, List.getElem?_cons_succ, List.set_cons_zero, List.set_cons_succ, List.set_nil, List.map_cons, List.map_nil, vload, loadC,
              storeC, vnil, vfaddr, vextract, callTo, List.mapM_cons, List.mapM_nil, Option.pure_def, Option.bind_eq_bind, Option.bind_some, tabOf_cons, flatT, flatE, flatC,
              and_self, and_true, true_and, implies_true, forall_const, not_true_eq_false, not_false_eq_true, false_implies, List.take_succ_cons, List.drop_succ_cons,
              List.take_zero, List.drop_zero, Bool.not_true, Bool.not_false, beq_self_eq_true, decide_true, decide_false, eq_self, Int.reduceEq, Int.reduceLE, Int.reduceLT,
              Bool.not_not, Bool.true_or, Bool.or_true, Bool.false_or, Bool.or_false, if_true, if_false, List.getElem?_nil, Kl_normal, Kl_exit, Kl_ret, fc94_0, fc94_1, fc94_2,
              fc94_3, fc94_4, fc94_5, fc94_6, fc94_7, fc94_8, fc94_9, fc94_10, fc94_11, fc94_12, fc94_13, fc94_14, fc94_15, fc94_16, fc94_17, fc94_18, fc94_19, fc94_20, fc94_21,
              fc94_22, fc94_23, fc94_24, fc94_25, cast_lit, toNat_lit, Int.reduceAdd, Int.reduceSub, Int.reduceMul, Int.reduceNeg, Int.reducePow, Nat.reducePow, Int.reduceToNat,
              Nat.reduceSub, Nat.mul_one, Int.toNat_zero, prod_eta, List.nil_append, List.cons_append, List.append_nil, Int.le_refl, Nat.le_refl, true_implies, take_all, vconv, vmm,
              vidxA, viaddrA, iaddr_sl, iaddr_lsl, getE, vfield, vlen, fillC, fillE, List.replicate, elemsOf, List.length_map, f2iK_eq, bits_i64, bits_i32, bits_u64, bits_u32,
              bits_u8, e_mov, g_mov, e_bin, g_bin, e_call, g_call, g_math_Trunc, dF32_map, dF64_map, dI64_map, dU8_map, dBool_map, dStr_map, decL, dF32, dF64, dI64, dU8, dBool, dStr]))
    all_goals (try simp only [*, m_impl_placesOf, v_impl_placesOf_0, Bool.and_true, Bool.true_and, Bool.and_false, Bool.false_and, Bool.or_true, Bool.true_or, Bool.or_false, Bool.false_or, Bool.not_true, Bool.not_false, Bool.false_eq_true, if_true, if_false, reduceIte, decide_true, decide_false])
    all_goals (try (simp_all; done))
  · cases h
def v_impl_sine_0 (x0 : Nat) : Bool := (flt .f64 4598175219545276416 (if (fle .f64 4602678819172646912 (m_impl_placesOf x0)) = true then (fsub .f64 (m_impl_placesOf x0)
      4602678819172646912) else (m_impl_placesOf x0)))
def v_impl_sine_1 (x0 : Nat) : Nat := (fsub .f64 4602678819172646912 (if (fle .f64 4602678819172646912 (m_impl_placesOf x0)) = true then (fsub .f64 (m_impl_placesOf x0)
      4602678819172646912) else (m_impl_placesOf x0)))
def v_impl_sine_2 (x0 : Nat) : Nat := (if (v_impl_sine_0 x0) = true then (v_impl_sine_1 x0) else (if (fle .f64 4602678819172646912 (m_impl_placesOf x0)) = true then (fsub .f64
      (m_impl_placesOf x0) 4602678819172646912) else (m_impl_placesOf x0)))
def v_impl_sine_3 (x0 : Nat) : Nat := (fdiv .f64 (fmul .f64 (fmul .f64 (fmul .f64 (v_impl_sine_2 x0) 4618760256179416344) (fmul .f64 (v_impl_sine_2 x0) 4618760256179416344))
      4607182418800017408) (ofInt .f64 272))
def v_impl_sine_4 (x0 : Nat) : Nat := (fmul .f64 (fmul .f64 (fmul .f64 (v_impl_sine_2 x0) 4618760256179416344) (fmul .f64 (v_impl_sine_2 x0) 4618760256179416344)) (fsub .f64
      4607182418800017408 (v_impl_sine_3 x0)))
def v_impl_sine_5 (x0 : Nat) : Nat := (fmul .f64 (fmul .f64 (fmul .f64 (v_impl_sine_2 x0) 4618760256179416344) (fmul .f64 (v_impl_sine_2 x0) 4618760256179416344)) (fsub .f64
      4607182418800017408 (fdiv .f64 (v_impl_sine_4 x0) (ofInt .f64 210))))
def v_impl_sine_6 (x0 : Nat) : Nat := (fmul .f64 (fmul .f64 (fmul .f64 (v_impl_sine_2 x0) 4618760256179416344) (fmul .f64 (v_impl_sine_2 x0) 4618760256179416344)) (fsub .f64
      4607182418800017408 (fdiv .f64 (v_impl_sine_5 x0) (ofInt .f64 156))))
def v_impl_sine_7 (x0 : Nat) : Nat := (fmul .f64 (fmul .f64 (fmul .f64 (v_impl_sine_2 x0) 4618760256179416344) (fmul .f64 (v_impl_sine_2 x0) 4618760256179416344)) (fsub .f64
      4607182418800017408 (fdiv .f64 (v_impl_sine_6 x0) (ofInt .f64 110))))
def v_impl_sine_8 (x0 : Nat) : Nat := (fmul .f64 (fmul .f64 (fmul .f64 (v_impl_sine_2 x0) 4618760256179416344) (fmul .f64 (v_impl_sine_2 x0) 4618760256179416344)) (fsub .f64
      4607182418800017408 (fdiv .f64 (v_impl_sine_7 x0) (ofInt .f64 72))))
def v_impl_sine_9 (x0 : Nat) : Nat := (fmul .f64 (fmul .f64 (fmul .f64 (v_impl_sine_2 x0) 4618760256179416344) (fmul .f64 (v_impl_sine_2 x0) 4618760256179416344)) (fsub .f64
      4607182418800017408 (fdiv .f64 (v_impl_sine_8 x0) (ofInt .f64 42))))
def v_impl_sine_10 (x0 : Nat) : Nat := (fmul .f64 (fmul .f64 (fmul .f64 (v_impl_sine_2 x0) 4618760256179416344) (fmul .f64 (v_impl_sine_2 x0) 4618760256179416344)) (fsub .f64
      4607182418800017408 (fdiv .f64 (v_impl_sine_9 x0) (ofInt .f64 20))))
def m_impl_sine (x0 : Nat) : Nat := (if (fle .f64 4602678819172646912 (m_impl_placesOf x0)) = true then (fneg .f64 (fmul .f64 (fmul .f64 (v_impl_sine_2 x0) 4618760256179416344)
      (fsub .f64 4607182418800017408 (fdiv .f64 (v_impl_sine_10 x0) (ofInt .f64 6))))) else (fmul .f64 (fmul .f64 (v_impl_sine_2 x0) 4618760256179416344) (fsub .f64
      4607182418800017408 (fdiv .f64 (v_impl_sine_10 x0) (ofInt .f64 6)))))
def g_impl_sine : List AV → Option AV
  | [.flt .f64 y0] => some (.flt .f64 (m_impl_sine y0))
  | _ => none
def ic74 : ICode := (.seq (.reg [⟨(some 2), none, (.mov (.c (.flt .f64 0)))⟩] [0]) (.seq (.reg [⟨(some 9), none, (.mov (.t 0))⟩, ⟨(some 10), none, (.call (.fn 94) [(.t 9)] [])⟩,
      ⟨(some 3), none, (.mov (.t 10))⟩] [3]) (.seq (.reg [⟨(some 11), none, (.mov (.t 3))⟩, ⟨(some 12), none, (.bin .geq false (.t 11) (.c (.flt .f64 4602678819172646912)))⟩, ⟨(some
      4), none, (.mov (.t 12))⟩] [3, 4]) (.seq (.seq (.reg [⟨(some 13), none, (.mov (.t 4))⟩] [3, 4, 13]) (.cond (.t 13) (.reg [⟨(some 14), none, (.mov (.t 3))⟩, ⟨(some 15), none,
      (.bin .sub false (.t 14) (.c (.flt .f64 4602678819172646912)))⟩, ⟨(some 3), none, (.mov (.t 15))⟩] [3, 4]) .skip)) (.seq (.seq (.reg [⟨(some 16), none, (.mov (.t 3))⟩, ⟨(some
      17), none, (.bin .gtr false (.t 16) (.c (.flt .f64 4598175219545276416)))⟩] [3, 4, 17]) (.cond (.t 17) (.reg [⟨(some 18), none, (.mov (.t 3))⟩, ⟨(some 19), none, (.bin .sub
      false (.c (.flt .f64 4602678819172646912)) (.t 18))⟩, ⟨(some 3), none, (.mov (.t 19))⟩] [3, 4]) .skip)) (.seq (.reg [⟨(some 20), none, (.mov (.t 3))⟩, ⟨(some 21), none, (.bin
      .mul false (.t 20) (.c (.flt .f64 4618760256179416344)))⟩, ⟨(some 5), none, (.mov (.t 21))⟩] [4, 5]) (.seq (.reg [⟨(some 22), none, (.mov (.t 5))⟩, ⟨(some 23), none, (.mov (.t
      5))⟩, ⟨(some 24), none, (.bin .mul false (.t 22) (.t 23))⟩, ⟨(some 6), none, (.mov (.t 24))⟩] [4, 5, 6]) (.seq (.reg [⟨(some 7), none, (.mov (.c (.flt .f64
      4607182418800017408)))⟩] [4, 5, 6, 7]) (.seq (.seq (.reg [⟨(some 8), none, (.mov (.c (.int .i64 8)))⟩] [4, 5, 6, 7, 8]) (.block 0 (.loop (.seq (.seq (.reg [⟨(some 25), none,
      (.mov (.t 8))⟩, ⟨(some 26), none, (.bin .geq false (.t 25) (.c (.int .i64 1)))⟩] [4, 5, 6, 7, 8, 26]) (.cond (.t 26) .skip (.exit 0))) (.seq (.block 1 (.reg [⟨(some 29), none,
      (.mov (.t 6))⟩, ⟨(some 30), none, (.mov (.t 7))⟩, ⟨(some 31), none, (.bin .mul false (.t 29) (.t 30))⟩, ⟨(some 32), none, (.mov (.t 8))⟩, ⟨(some 33), none, (.bin .mul false
      (.c (.int .i64 2)) (.t 32))⟩, ⟨(some 34), none, (.mov (.t 8))⟩, ⟨(some 35), none, (.bin .mul false (.c (.int .i64 2)) (.t 34))⟩, ⟨(some 36), none, (.bin .add false (.t 35) (.c
      (.int .i64 1)))⟩, ⟨(some 37), none, (.bin .mul false (.t 33) (.t 36))⟩, ⟨(some 38), none, (.conv (.flt .f64) (.t 37))⟩, ⟨(some 39), none, (.bin .quo false (.t 31) (.t 38))⟩,
      ⟨(some 40), none, (.bin .sub false (.c (.flt .f64 4607182418800017408)) (.t 39))⟩, ⟨(some 7), none, (.mov (.t 40))⟩] [4, 5, 6, 7, 8])) (.reg [⟨(some 27), none, (.mov (.t 8))⟩,
      ⟨(some 28), none, (.bin .sub false (.t 27) (.c (.int .i64 1)))⟩, ⟨(some 8), none, (.mov (.t 28))⟩] [4, 5, 6, 7, 8])))))) (.seq (.seq (.reg [⟨(some 41), none, (.mov (.t 4))⟩]
      [5, 7, 41]) (.cond (.t 41) (.seq (.reg [⟨(some 42), none, (.mov (.t 5))⟩, ⟨(some 43), none, (.mov (.t 7))⟩, ⟨(some 44), none, (.bin .mul false (.t 42) (.t 43))⟩, ⟨(some 45),
      none, (.un .neg (.t 44))⟩, ⟨(some 2), none, (.mov (.t 45))⟩] [2]) .ret) .skip)) (.seq (.reg [⟨(some 46), none, (.mov (.t 5))⟩, ⟨(some 47), none, (.mov (.t 7))⟩, ⟨(some 48),
      none, (.bin .mul false (.t 46) (.t 47))⟩, ⟨(some 2), none, (.mov (.t 48))⟩] [2]) .ret)))))))))))
def cp74 : CP := { n := 49, kp := [[0], [3], [3, 4], [3, 4, 13], [3, 4], [3, 4, 17], [3, 4], [4, 5], [4, 5, 6], [4, 5, 6, 7], [4, 5, 6, 7, 8], [4, 5, 6, 7, 8, 26], [4, 5, 6, 7, 8],
      [4, 5, 6, 7, 8], [5, 7, 41], [2], [2]] }
theorem fc74_0 : IntKind.wrap .i64 (-1) = (-1) := by decide
theorem fc74_1 : IntKind.wrap .i64 0 = 0 := by decide
theorem fc74_2 : IntKind.wrap .i64 1 = 1 := by decide
theorem fc74_3 : IntKind.wrap .i64 10 = 10 := by decide
theorem fc74_4 : IntKind.wrap .i64 11 = 11 := by decide
theorem fc74_5 : IntKind.wrap .i64 110 = 110 := by decide
theorem fc74_6 : IntKind.wrap .i64 12 = 12 := by decide
theorem fc74_7 : IntKind.wrap .i64 13 = 13 := by decide
theorem fc74_8 : IntKind.wrap .i64 14 = 14 := by decide
theorem fc74_9 : IntKind.wrap .i64 15 = 15 := by decide
theorem fc74_10 : IntKind.wrap .i64 156 = 156 := by decide
theorem fc74_11 : IntKind.wrap .i64 16 = 16 := by decide
theorem fc74_12 : IntKind.wrap .i64 17 = 17 := by decide
theorem fc74_13 : IntKind.wrap .i64 2 = 2 := by decide
theorem fc74_14 : IntKind.wrap .i64 20 = 20 := by decide
theorem fc74_15 : IntKind.wrap .i64 210 = 210 := by decide
theorem fc74_16 : IntKind.wrap .i64 272 = 272 := by decide
theorem fc74_17 : IntKind.wrap .i64 3 = 3 := by decide
theorem fc74_18 : IntKind.wrap .i64 4 = 4 := by decide
theorem fc74_19 : IntKind.wrap .i64 42 = 42 := by decide
theorem fc74_20 : IntKind.wrap .i64 5 = 5 := by decide
theorem fc74_21 : IntKind.wrap .i64 6 = 6 := by decide
theorem fc74_22 : IntKind.wrap .i64 7 = 7 := by decide
theorem fc74_23 : IntKind.wrap .i64 72 = 72 := by decide
theorem fc74_24 : IntKind.wrap .i64 8 = 8 := by decide
theorem fc74_25 : IntKind.wrap .i64 9 = 9 := by decide
theorem s74 : ∀ vs r, g_impl_sine vs = some r → Says Try.prog 74 vs r := by
  intro vs r h
  unfold g_impl_sine at h
  split at h
  · rename_i y0
    cases h
    refine spec_of (tab := tabOf [(94, g_impl_placesOf)]) (cp := cp74) (ic := ic74) (rvl := [(.t 2)]) hm (tabOk_cons s94 tabOk_nil) Try.func74 rfl rfl rfl (by kernel_rfl) rfl (Nat.le_of_ble_eq_true rfl) ?_
    show eA _ _ _ _
    unfold ic74
    simp only [
        eA_seq, eA_reg, eA_ret, eA_skip, eA_cond, eA_block, eA_exit, eCc_true, eCc_false, Kq_normal, Kq_ret, Kq_exit, Kb_normal, Kb_exit, Kb_ret, Kreg_eq, eI_nil, bindSt_some,
              bindSt_none, bindSt_ite, eR_eq, eGI_tt, eGI_ff, eGI_tf, eGI_ft, eop, vop, ev_t, ev_c, ev_f, Option.map, put_some, put_none, set_eq, setH_eq, get_eq, hp_eq, keep_cons,
              keep_nil, lk_cons, lk_nil, startSt, envOf, reduceIte, Nat.reduceEqDiff, Nat.reduceAdd, Nat.zero_add, Nat.add_zero, Nat.reduceMul, Nat.reduceLT, Nat.reduceLeDiff, bop,
              uop, intop, fltop, convop, true_or, or_true, Bool.false_eq_true, ret_ok, ret_normal, outV, rvV, rvs, ex_some, pureV, pureX, pureX.pure1', pure1, Bool.true_and,
              Bool.false_and, Bool.and_true, Bool.and_false, Option.isNone_none, AV.cells, AV.one, storable, laid, refless, refless1, List.all_cons, List.all_nil, List.length_cons,
              List.length_nil, List.getElem?_cons_zero, List.getElem?_cons_succ, List.set_cons_zero, List.set_cons_succ, List.set_nil, List.map_cons, List.map_nil, vload, loadC,
              storeC, vnil, vfaddr, vextract, callTo, List.mapM_cons, List.mapM_nil, Option.pure_def, Option.bind_eq_bind, Option.bind_some, tabOf_cons, flatT, flatE, flatC,
              and_self, and_true, true_and, implies_true, forall_const, not_true_eq_false, not_false_eq_true, false_implies, List.take_succ_cons, List.drop_succ_cons,
              List.take_zero, List.drop_zero, Bool.not_true, Bool.not_false, beq_self_eq_true, decide_true, decide_false, eq_self, Int.reduceEq, Int.reduceLE, Int.reduceLT,
              Bool.not_not, Bool.true_or, Bool.or_true, Bool.false_or, Bool.or_false, if_true, if_false, List.getElem?_nil, Kl_normal, Kl_exit, Kl_ret, fc74_0, fc74_1, fc74_2,
              fc74_3, fc74_4, fc74_5, fc74_6, fc74_7, fc74_8, fc74_9, fc74_10, fc74_11, fc74_12, fc74_13, fc74_14, fc74_15, fc74_16, fc74_17, fc74_18, fc74_19, fc74_20, fc74_21,
              fc74_22, fc74_23, fc74_24, fc74_25, cast_lit, toNat_lit, Int.reduceAdd, Int.reduceSub, Int.reduceMul, Int.reduceNeg, Int.reducePow, Nat.reducePow, Int.reduceToNat,
              Nat.reduceSub, Nat.mul_one, Int.toNat_zero, prod_eta, List.nil_append, List.cons_append, List.append_nil, Int.le_refl, Nat.le_refl, true_implies, take_all, vconv, vmm,
              vidxA, viaddrA, iaddr_sl, iaddr_lsl, getE, vfield, vlen, fillC, fillE, List.replicate, elemsOf, List.length_map, f2iK_eq, bits_i64, bits_i32, bits_u64, bits_u32,
              bits_u8, e_mov, g_mov, e_bin, g_bin, e_un, g_un, e_conv, g_conv, e_call, g_call, g_impl_placesOf, dF32_map, dF64_map, dI64_map, dU8_map, dBool_map, dStr_map, decL,
              dF32, dF64, dI64, dU8, dBool, dStr]
    repeat' (first
      | ((first | (refine eGI_of (fun h => ?_) (fun h => ?_)) | (refine eCc_of (fun h => ?_) (fun h => ?_)) | (have h := True.intro; refine KW_refl ?_) | (have h := True.intro; refine eA_loop ?_)) <;> (try simp only [Bool.not_eq_true', Bool.not_eq_false'] at h) <;> simp only [h,
        eA_seq, eA_reg, eA_ret, eA_skip, eA_cond, eA_block, eA_exit, eCc_true, eCc_false, Kq_normal, Kq_ret, Kq_exit, Kb_normal, Kb_exit, Kb_ret, Kreg_eq, eI_nil, bindSt_some,
              bindSt_none, bindSt_ite, eR_eq, eGI_tt, eGI_ff, eGI_tf, eGI_ft, eop, vop, ev_t, ev_c, ev_f, Option.map, put_some, put_none, set_eq, setH_eq, get_eq, hp_eq, keep_cons,
              keep_nil, lk_cons, lk_nil, startSt, envOf, reduceIte, Nat.reduceEqDiff, Nat.reduceAdd, Nat.zero_add, Nat.add_zero, Nat.reduceMul, Nat.reduceLT, Nat.reduceLeDiff, bop,
              uop, intop, fltop, convop, true_or, or_true, Bool.false_eq_true, ret_ok, ret_normal, outV, rvV, rvs, ex_some, pureV, pureX, pureX.pure1', pure1, Bool.true_and,
              Bool.false_and, Bool.and_true, Bool.and_false, Option.isNone_none, AV.cells, AV.one, storable, laid, refless, refless1, List.all_cons, List.all_nil, List.length_cons,
              List.length_nil, List.getElem?_cons_zero, List.getElem?_cons_succ, List.set_cons_zero, List.set_cons_succ, List.set_nil, List.map_cons, List.map_nil, vload, loadC,
              storeC, vnil, vfaddr, vextract, callTo, List.mapM_cons, List.mapM_nil, Option.pure_def, Option.bind_eq_bind, Option.bind_some, tabOf_cons, flatT, flatE, flatC,
              and_self, and_true, true_and, implies_true, forall_const, not_true_eq_false, not_false_eq_true, false_implies, List.take_succ_cons, List.drop_succ_cons,
              List.take_zero, List.drop_zero, Bool.not_true, Bool.not_false, beq_self_eq_true, decide_true, decide_false, eq_self, Int.reduceEq, Int.reduceLE, Int.reduceLT,
              Bool.not_not, Bool.true_or, Bool.or_true, Bool.false_or, Bool.or_false, if_true, if_false, List.getElem?_nil, Kl_normal, Kl_exit, Kl_ret, fc74_0, fc74_1, fc74_2,
              fc74_3, fc74_4, fc74_5, fc74_6, fc74_7, fc74_8, fc74_9, fc74_10, fc74_11, fc74_12, fc74_13, fc74_14, fc74_15, fc74_16, fc74_17, fc74_18, fc74_19, fc74_20, fc74_21,
              fc74_22, fc74_23, fc74_24, fc74_25, cast_lit, toNat_lit, Int.reduceAdd, Int.reduceSub, Int.reduceMul, Int.reduceNeg, Int.reducePow, Nat.reducePow, Int.reduceToNat,
              Nat.reduceSub, Nat.mul_one, Int.toNat_zero, prod_eta, List.nil_append, List.cons_append, List.append_nil, Int.le_refl, Nat.le_refl, true_implies, take_all, vconv, vmm,
              vidxA, viaddrA, iaddr_sl, iaddr_lsl, getE, vfield, vlen, fillC, fillE, List.replicate, elemsOf, List.length_map, f2iK_eq, bits_i64, bits_i32, bits_u64, bits_u32,
              bits_u8, e_mov, g_mov, e_bin, g_bin, e_un, g_un, e_conv, g_conv, e_call, g_call, g_impl_placesOf, dF32_map, dF64_map, dI64_map, dU8_map, dBool_map, dStr_map, decL,
              dF32, dF64, dI64, dU8, dBool, dStr]))
    all_goals (try simp only [*, m_impl_sine, v_impl_sine_0, v_impl_sine_1, v_impl_sine_2, v_impl_sine_3, v_impl_sine_4, v_impl_sine_5, v_impl_sine_6, v_impl_sine_7, v_impl_sine_8, v_impl_sine_9, v_impl_sine_10, Bool.and_true, Bool.true_and, Bool.and_false, Bool.false_and, Bool.or_true, Bool.true_or, Bool.or_false, Bool.false_or, Bool.not_true, Bool.not_false, Bool.false_eq_true, if_true, if_false, reduceIte, decide_true, decide_false])
    all_goals (try (simp_all; done))
  · cases h
def m_impl_wideSine (x0 : Nat) : Nat := (if (feq .f64 (fsub .f64 x0 x0) 0) = true then (if (fle .f64 4841369599423283200 (fabs x0)) = true then 0 else (m_impl_sine x0)) else
      (m_math_NaN))
def g_impl_wideSine : List AV → Option AV
  | [.flt .f64 y0] => some (.flt .f64 (m_impl_wideSine y0))
  | _ => none
def ic54 : ICode := (.seq (.reg [⟨(some 2), none, (.mov (.c (.flt .f64 0)))⟩] [0]) (.seq (.block 0 (.seq (.reg [⟨(some 4), none, (.mov (.t 0))⟩, ⟨(some 5), none, (.mov (.t 0))⟩,
      ⟨(some 6), none, (.bin .sub false (.t 4) (.t 5))⟩, ⟨(some 7), none, (.bin .neq false (.t 6) (.c (.flt .f64 0)))⟩, ⟨(some 3), none, (.mov (.t 7))⟩] [0, 3]) (.cond (.t 3) (.seq
      (.reg [⟨(some 8), none, (.call (.fn 73) [] [])⟩, ⟨(some 2), none, (.mov (.t 8))⟩] [2]) .ret) (.seq (.reg [⟨(some 10), none, (.mov (.t 0))⟩, ⟨(some 11), none, (.call (.fn 71)
      [(.t 10)] [])⟩, ⟨(some 12), none, (.bin .geq false (.t 11) (.c (.flt .f64 4841369599423283200)))⟩, ⟨(some 9), none, (.mov (.t 12))⟩] [0, 9]) (.cond (.t 9) (.seq (.reg [⟨(some
      2), none, (.mov (.c (.flt .f64 0)))⟩] [2]) .ret) .skip))))) (.seq (.reg [⟨(some 13), none, (.mov (.t 0))⟩, ⟨(some 14), none, (.call (.fn 74) [(.t 13)] [])⟩, ⟨(some 2), none,
      (.mov (.t 14))⟩] [2]) .ret)))
def cp54 : CP := { n := 15, kp := [[0], [0, 3], [2], [0, 9], [2], [2]] }
theorem fc54_0 : IntKind.wrap .i64 (-1) = (-1) := by decide
theorem fc54_1 : IntKind.wrap .i64 0 = 0 := by decide
theorem fc54_2 : IntKind.wrap .i64 1 = 1 := by decide
theorem fc54_3 : IntKind.wrap .i64 10 = 10 := by decide
theorem fc54_4 : IntKind.wrap .i64 11 = 11 := by decide
theorem fc54_5 : IntKind.wrap .i64 110 = 110 := by decide
theorem fc54_6 : IntKind.wrap .i64 12 = 12 := by decide
theorem fc54_7 : IntKind.wrap .i64 13 = 13 := by decide
theorem fc54_8 : IntKind.wrap .i64 14 = 14 := by decide
theorem fc54_9 : IntKind.wrap .i64 15 = 15 := by decide
theorem fc54_10 : IntKind.wrap .i64 156 = 156 := by decide
theorem fc54_11 : IntKind.wrap .i64 16 = 16 := by decide
theorem fc54_12 : IntKind.wrap .i64 17 = 17 := by decide
theorem fc54_13 : IntKind.wrap .i64 2 = 2 := by decide
theorem fc54_14 : IntKind.wrap .i64 20 = 20 := by decide
theorem fc54_15 : IntKind.wrap .i64 210 = 210 := by decide
theorem fc54_16 : IntKind.wrap .i64 272 = 272 := by decide
theorem fc54_17 : IntKind.wrap .i64 3 = 3 := by decide
theorem fc54_18 : IntKind.wrap .i64 4 = 4 := by decide
theorem fc54_19 : IntKind.wrap .i64 42 = 42 := by decide
theorem fc54_20 : IntKind.wrap .i64 5 = 5 := by decide
theorem fc54_21 : IntKind.wrap .i64 6 = 6 := by decide
theorem fc54_22 : IntKind.wrap .i64 7 = 7 := by decide
theorem fc54_23 : IntKind.wrap .i64 72 = 72 := by decide
theorem fc54_24 : IntKind.wrap .i64 8 = 8 := by decide
theorem fc54_25 : IntKind.wrap .i64 9 = 9 := by decide
theorem s54 : ∀ vs r, g_impl_wideSine vs = some r → Says Try.prog 54 vs r := by
  intro vs r h
  unfold g_impl_wideSine at h
  split at h
  · rename_i y0
    cases h
    refine spec_of (tab := tabOf [(71, g_abs), (73, g_math_NaN), (74, g_impl_sine)]) (cp := cp54) (ic := ic54) (rvl := [(.t 2)]) hm (tabOk_cons s71 (tabOk_cons s73 (tabOk_cons s74 tabOk_nil))) Try.func54 rfl rfl rfl (by kernel_rfl) rfl (Nat.le_of_ble_eq_true rfl) ?_
    show eA _ _ _ _
    unfold ic54
    simp only [
        eA_seq, eA_reg, eA_ret, eA_skip, eA_cond, eA_block, eA_exit, eCc_true, eCc_false, Kq_normal, Kq_ret, Kq_exit, Kb_normal, Kb_exit, Kb_ret, Kreg_eq, eI_nil, bindSt_some,
              bindSt_none, bindSt_ite, eR_eq, eGI_tt, eGI_ff, eGI_tf, eGI_ft, eop, vop, ev_t, ev_c, ev_f, Option.map, put_some, put_none, set_eq, setH_eq, get_eq, hp_eq, keep_cons,
              keep_nil, lk_cons, lk_nil, startSt, envOf, reduceIte, Nat.reduceEqDiff, Nat.reduceAdd, Nat.zero_add, Nat.add_zero, Nat.reduceMul, Nat.reduceLT, Nat.reduceLeDiff, bop,
              uop, intop, fltop, convop, true_or, or_true, Bool.false_eq_true, ret_ok, ret_normal, outV, rvV, rvs, ex_some, pureV, pureX, pureX.pure1', pure1, Bool.true_and,
              Bool.false_and, Bool.and_true, Bool.and_false, Option.isNone_none, AV.cells, AV.one, storable, laid, refless, refless1, List.all_cons, List.all_nil, List.length_cons,
              List.length_nil, List.getElem?_cons_zero, List.getElem?_cons_succ, List.set_cons_zero, List.set_cons_succ, List.set_nil, List.map_cons, List.map_nil, vload, loadC,
              storeC, vnil, vfaddr, vextract, callTo, List.mapM_cons, List.mapM_nil, Option.pure_def, Option.bind_eq_bind, Option.bind_some, tabOf_cons, flatT, flatE, flatC,
              and_self, and_true, true_and, implies_true, forall_const, not_true_eq_false, not_false_eq_true, false_implies, List.take_succ_cons, List.drop_succ_cons,
              List.take_zero, List.drop_zero, Bool.not_true, Bool.not_false, beq_self_eq_true, decide_true, decide_false, eq_self, Int.reduceEq, Int.reduceLE, Int.reduceLT,
              Bool.not_not, Bool.true_or, Bool.or_true, Bool.false_or, Bool.or_false, if_true, if_false, List.getElem?_nil, Kl_normal, Kl_exit, Kl_ret, fc54_0, fc54_1, fc54_2,
              fc54_3, fc54_4, fc54_5, fc54_6, fc54_7, fc54_8, fc54_9, fc54_10, fc54_11, fc54_12, fc54_13, fc54_14, fc54_15, fc54_16, fc54_17, fc54_18, fc54_19, fc54_20, fc54_21,
              fc54_22, fc54_23, fc54_24, fc54_25, cast_lit, toNat_lit, Int.reduceAdd, Int.reduceSub, Int.reduceMul, Int.reduceNeg, Int.reducePow, Nat.reducePow, Int.reduceToNat,
              Nat.reduceSub, Nat.mul_one, Int.toNat_zero, prod_eta, List.nil_append, List.cons_append, List.append_nil, Int.le_refl, Nat.le_refl, true_implies, take_all, vconv, vmm,
              vidxA, viaddrA, iaddr_sl, iaddr_lsl, getE, vfield, vlen, fillC, fillE, List.replicate, elemsOf, List.length_map, f2iK_eq, bits_i64, bits_i32, bits_u64, bits_u32,
              bits_u8, e_mov, g_mov, e_bin, g_bin, e_call, g_call, g_abs, g_math_NaN, g_impl_sine, dF32_map, dF64_map, dI64_map, dU8_map, dBool_map, dStr_map, decL, dF32, dF64,
              dI64, dU8, dBool, dStr]
    repeat' (first
      | ((first | (refine eGI_of (fun h => ?_) (fun h => ?_)) | (refine eCc_of (fun h => ?_) (fun h => ?_)) | (have h := True.intro; refine KW_refl ?_)) <;> (try simp only [Bool.not_eq_true', Bool.not_eq_false'] at h) <;> simp only [h,
        eA_seq, eA_reg, eA_ret, eA_skip, eA_cond, eA_block, eA_exit, eCc_true, eCc_false, Kq_normal, Kq_ret, Kq_exit, Kb_normal, Kb_exit, Kb_ret, Kreg_eq, eI_nil, bindSt_some,
              bindSt_none, bindSt_ite, eR_eq, eGI_tt, eGI_ff, eGI_tf, eGI_ft, eop, vop, ev_t, ev_c, ev_f, Option.map, put_some, put_none, set_eq, setH_eq, get_eq, hp_eq, keep_cons,
              keep_nil, lk_cons, lk_nil, startSt, envOf, reduceIte, Nat.reduceEqDiff, Nat.reduceAdd, Nat.zero_add, Nat.add_zero, Nat.reduceMul, Nat.reduceLT, Nat.reduceLeDiff, bop,
              uop, intop, fltop, convop, true_or, or_true, Bool.false_eq_true, ret_ok, ret_normal, outV, rvV, rvs, ex_some, pureV, pureX, pureX.pure1', pure1, Bool.true_and,
              Bool.false_and, Bool.and_true, Bool.and_false, Option.isNone_none, AV.cells, AV.one, storable, laid, refless, refless1, List.all_cons, List.all_nil, List.length_cons,
              List.length_nil, List.getElem?_cons_zero, List.getElem?_cons_succ, List.set_cons_zero, List.set_cons_succ, List.set_nil, List.map_cons, List.map_nil, vload, loadC,
              storeC, vnil, vfaddr, vextract, callTo, List.mapM_cons, List.mapM_nil, Option.pure_def, Option.bind_eq_bind, Option.bind_some, tabOf_cons, flatT, flatE, flatC,
              and_self, and_true, true_and, implies_true, forall_const, not_true_eq_false, not_false_eq_true, false_implies, List.take_succ_cons, List.drop_succ_cons,
              List.take_zero, List.drop_zero, Bool.not_true, Bool.not_false, beq_self_eq_true, decide_true, decide_false, eq_self, Int.reduceEq, Int.reduceLE, Int.reduceLT,
              Bool.not_not, Bool.true_or, Bool.or_true, Bool.false_or, Bool.or_false, if_true, if_false, List.getElem?_nil, Kl_normal, Kl_exit, Kl_ret, fc54_0, fc54_1, fc54_2,
              fc54_3, fc54_4, fc54_5, fc54_6, fc54_7, fc54_8, fc54_9, fc54_10, fc54_11, fc54_12, fc54_13, fc54_14, fc54_15, fc54_16, fc54_17, fc54_18, fc54_19, fc54_20, fc54_21,
              fc54_22, fc54_23, fc54_24, fc54_25, cast_lit, toNat_lit, Int.reduceAdd, Int.reduceSub, Int.reduceMul, Int.reduceNeg, Int.reducePow, Nat.reducePow, Int.reduceToNat,
              Nat.reduceSub, Nat.mul_one, Int.toNat_zero, prod_eta, List.nil_append, List.cons_append, List.append_nil, Int.le_refl, Nat.le_refl, true_implies, take_all, vconv, vmm,
              vidxA, viaddrA, iaddr_sl, iaddr_lsl, getE, vfield, vlen, fillC, fillE, List.replicate, elemsOf, List.length_map, f2iK_eq, bits_i64, bits_i32, bits_u64, bits_u32,
              bits_u8, e_mov, g_mov, e_bin, g_bin, e_call, g_call, g_abs, g_math_NaN, g_impl_sine, dF32_map, dF64_map, dI64_map, dU8_map, dBool_map, dStr_map, decL, dF32, dF64,
              dI64, dU8, dBool, dStr]))
    all_goals (try simp only [*, m_impl_wideSine, Bool.and_true, Bool.true_and, Bool.and_false, Bool.false_and, Bool.or_true, Bool.true_or, Bool.or_false, Bool.false_or, Bool.not_true, Bool.not_false, Bool.false_eq_true, if_true, if_false, reduceIte, decide_true, decide_false])
    all_goals (try (simp_all; done))
  · cases h
def m_impl_ScaleVector (x0 : (Nat × Nat × Nat)) (x1 : Nat) : (Nat × Nat × Nat) := ((fmul .f32 x0.1 x1), (fmul .f32 x0.2.1 x1), (fmul .f32 x0.2.2 x1))
def g_impl_ScaleVector : List AV → Option AV
  | [.agg [.flt .f32 y0, .flt .f32 y1, .flt .f32 y2], .flt .f32 y3] => some (AV.agg [(.flt .f32 (m_impl_ScaleVector (y0, y1, y2) y3).1),
      (.flt .f32 (m_impl_ScaleVector (y0, y1, y2) y3).2.1), (.flt .f32 (m_impl_ScaleVector (y0, y1, y2) y3).2.2)])
  | _ => none
def ic48 : ICode := (.seq (.reg [⟨(some 2), none, (.box 3 (.t 0))⟩, ⟨(some 4), none, (.alloc (.agg [(.flt .f32 0), (.flt .f32 0), (.flt .f32 0)]))⟩] [1, 2, 4]) (.seq (.reg [⟨(some
      5), none, (.faddr 0 (.t 2))⟩, ⟨(some 6), none, (.load none (.t 5))⟩, ⟨(some 7), none, (.mov (.t 1))⟩, ⟨(some 8), none, (.bin .mul false (.t 6) (.t 7))⟩, ⟨(some 9), none,
      (.faddr 1 (.t 2))⟩, ⟨(some 10), none, (.load none (.t 9))⟩, ⟨(some 11), none, (.mov (.t 1))⟩, ⟨(some 12), none, (.bin .mul false (.t 10) (.t 11))⟩, ⟨(some 13), none, (.faddr 2
      (.t 2))⟩, ⟨(some 14), none, (.load none (.t 13))⟩, ⟨(some 15), none, (.mov (.t 1))⟩, ⟨(some 16), none, (.bin .mul false (.t 14) (.t 15))⟩, ⟨(some 17), none, (.build [(.flt
      .f32 0), (.flt .f32 0), (.flt .f32 0)] [(0, 1, (.t 8)), (1, 1, (.t 12)), (2, 1, (.t 16))])⟩, ⟨none, none, (.store 3 (.t 4) (.t 17))⟩] [4]) .ret))
def cp48 : CP := { n := 18, kp := [[1, 2, 4], [4]] }
theorem fc48_0 : IntKind.wrap .i64 (-1) = (-1) := by decide
theorem fc48_1 : IntKind.wrap .i64 0 = 0 := by decide
theorem fc48_2 : IntKind.wrap .i64 1 = 1 := by decide
theorem fc48_3 : IntKind.wrap .i64 10 = 10 := by decide
theorem fc48_4 : IntKind.wrap .i64 11 = 11 := by decide
theorem fc48_5 : IntKind.wrap .i64 110 = 110 := by decide
theorem fc48_6 : IntKind.wrap .i64 12 = 12 := by decide
theorem fc48_7 : IntKind.wrap .i64 13 = 13 := by decide
theorem fc48_8 : IntKind.wrap .i64 14 = 14 := by decide
theorem fc48_9 : IntKind.wrap .i64 15 = 15 := by decide
theorem fc48_10 : IntKind.wrap .i64 156 = 156 := by decide
theorem fc48_11 : IntKind.wrap .i64 16 = 16 := by decide
theorem fc48_12 : IntKind.wrap .i64 17 = 17 := by decide
theorem fc48_13 : IntKind.wrap .i64 2 = 2 := by decide
theorem fc48_14 : IntKind.wrap .i64 20 = 20 := by decide
theorem fc48_15 : IntKind.wrap .i64 210 = 210 := by decide
theorem fc48_16 : IntKind.wrap .i64 272 = 272 := by decide
theorem fc48_17 : IntKind.wrap .i64 3 = 3 := by decide
theorem fc48_18 : IntKind.wrap .i64 4 = 4 := by decide
theorem fc48_19 : IntKind.wrap .i64 42 = 42 := by decide
theorem fc48_20 : IntKind.wrap .i64 5 = 5 := by decide
theorem fc48_21 : IntKind.wrap .i64 6 = 6 := by decide
theorem fc48_22 : IntKind.wrap .i64 7 = 7 := by decide
theorem fc48_23 : IntKind.wrap .i64 72 = 72 := by decide
theorem fc48_24 : IntKind.wrap .i64 8 = 8 := by decide
theorem fc48_25 : IntKind.wrap .i64 9 = 9 := by decide
theorem s48 : ∀ vs r, g_impl_ScaleVector vs = some r → Says Try.prog 48 vs r := by
  intro vs r h
  unfold g_impl_ScaleVector at h
  split at h
  · rename_i y0 y1 y2 y3
    cases h
    refine spec_of (tab := tabOf []) (cp := cp48) (ic := ic48) (rvl := [(.c 4 (some 3))]) hm tabOk_nil Try.func48 rfl rfl rfl (by kernel_rfl) rfl (Nat.le_of_ble_eq_true rfl) ?_
    show eA _ _ _ _
    unfold ic48
    simp only [
        eA_seq, eA_reg, eA_ret, eA_skip, eA_cond, eA_block, eA_exit, eCc_true, eCc_false, Kq_normal, Kq_ret, Kq_exit, Kb_normal, Kb_exit, Kb_ret, Kreg_eq, eI_nil, bindSt_some,
              bindSt_none, bindSt_ite, eR_eq, eGI_tt, eGI_ff, eGI_tf, eGI_ft, eop, vop, ev_t, ev_c, ev_f, Option.map, put_some, put_none, set_eq, setH_eq, get_eq, hp_eq, keep_cons,
              keep_nil, lk_cons, lk_nil, startSt, envOf, reduceIte, Nat.reduceEqDiff, Nat.reduceAdd, Nat.zero_add, Nat.add_zero, Nat.reduceMul, Nat.reduceLT, Nat.reduceLeDiff, bop,
              uop, intop, fltop, convop, true_or, or_true, Bool.false_eq_true, ret_ok, ret_normal, outV, rvV, rvs, ex_some, pureV, pureX, pureX.pure1', pure1, Bool.true_and,
              Bool.false_and, Bool.and_true, Bool.and_false, Option.isNone_none, AV.cells, AV.one, storable, laid, refless, refless1, List.all_cons, List.all_nil, List.length_cons,
              List.length_nil, List.getElem?_cons_zero, List.getElem?_cons_succ, List.set_cons_zero, List.set_cons_succ, List.set_nil, List.map_cons, List.map_nil, vload, loadC,
              storeC, vnil, vfaddr, vextract, callTo, List.mapM_cons, List.mapM_nil, Option.pure_def, Option.bind_eq_bind, Option.bind_some, tabOf_cons, flatT, flatE, flatC,
              and_self, and_true, true_and, implies_true, forall_const, not_true_eq_false, not_false_eq_true, false_implies, List.take_succ_cons, List.drop_succ_cons,
              List.take_zero, List.drop_zero, Bool.not_true, Bool.not_false, beq_self_eq_true, decide_true, decide_false, eq_self, Int.reduceEq, Int.reduceLE, Int.reduceLT,
              Bool.not_not, Bool.true_or, Bool.or_true, Bool.false_or, Bool.or_false, if_true, if_false, List.getElem?_nil, Kl_normal, Kl_exit, Kl_ret, fc48_0, fc48_1, fc48_2,
              fc48_3, fc48_4, fc48_5, fc48_6, fc48_7, fc48_8, fc48_9, fc48_10, fc48_11, fc48_12, fc48_13, fc48_14, fc48_15, fc48_16, fc48_17, fc48_18, fc48_19, fc48_20, fc48_21,
              fc48_22, fc48_23, fc48_24, fc48_25, cast_lit, toNat_lit, Int.reduceAdd, Int.reduceSub, Int.reduceMul, Int.reduceNeg, Int.reducePow, Nat.reducePow, Int.reduceToNat,
              Nat.reduceSub, Nat.mul_one, Int.toNat_zero, prod_eta, List.nil_append, List.cons_append, List.append_nil, Int.le_refl, Nat.le_refl, true_implies, take_all, vconv, vmm,
              vidxA, viaddrA, iaddr_sl, iaddr_lsl, getE, vfield, vlen, fillC, fillE, List.replicate, elemsOf, List.length_map, f2iK_eq, bits_i64, bits_i32, bits_u64, bits_u32,
              bits_u8, e_mov, g_mov, e_alloc, g_alloc, e_box, g_box, e_build, g_build, e_load, g_load, e_store, g_store, e_bin, g_bin, e_faddr, g_faddr, dF32_map, dF64_map,
              dI64_map, dU8_map, dBool_map, dStr_map, decL, dF32, dF64, dI64, dU8, dBool, dStr]
    repeat' (first
      | ((first | (refine eGI_of (fun h => ?_) (fun h => ?_)) | (refine eCc_of (fun h => ?_) (fun h => ?_))) <;> (try simp only [Bool.not_eq_true', Bool.not_eq_false'] at h) <;> simp only [h,
        eA_seq, eA_reg, eA_ret, eA_skip, eA_cond, eA_block, eA_exit, eCc_true, eCc_false, Kq_normal, Kq_ret, Kq_exit, Kb_normal, Kb_exit, Kb_ret, Kreg_eq, eI_nil, bindSt_some,
              bindSt_none, bindSt_ite, eR_eq, eGI_tt, eGI_ff, eGI_tf, eGI_ft, eop, vop, ev_t, ev_c, ev_f, Option.map, put_some, put_none, set_eq, setH_eq, get_eq, hp_eq, keep_cons,
              keep_nil, lk_cons, lk_nil, startSt, envOf, reduceIte, Nat.reduceEqDiff, Nat.reduceAdd, Nat.zero_add, Nat.add_zero, Nat.reduceMul, Nat.reduceLT, Nat.reduceLeDiff, bop,
              uop, intop, fltop, convop, true_or, or_true, Bool.false_eq_true, ret_ok, ret_normal, outV, rvV, rvs, ex_some, pureV, pureX, pureX.pure1', pure1, Bool.true_and,
              Bool.false_and, Bool.and_true, Bool.and_false, Option.isNone_none, AV.cells, AV.one, storable, laid, refless, refless1, List.all_cons, List.all_nil, List.length_cons,
              List.length_nil, List.getElem?_cons_zero, List.getElem?_cons_succ, List.set_cons_zero, List.set_cons_succ, List.set_nil, List.map_cons, List.map_nil, vload, loadC,
              storeC, vnil, vfaddr, vextract, callTo, List.mapM_cons, List.mapM_nil, Option.pure_def, Option.bind_eq_bind, Option.bind_some, tabOf_cons, flatT, flatE, flatC,
              and_self, and_true, true_and, implies_true, forall_const, not_true_eq_false, not_false_eq_true, false_implies, List.take_succ_cons, List.drop_succ_cons,
              List.take_zero, List.drop_zero, Bool.not_true, Bool.not_false, beq_self_eq_true, decide_true, decide_false, eq_self, Int.reduceEq, Int.reduceLE, Int.reduceLT,
              Bool.not_not, Bool.true_or, Bool.or_true, Bool.false_or, Bool.or_false, if_true, if_false, List.getElem?_nil, Kl_normal, Kl_exit, Kl_ret, fc48_0, fc48_1, fc48_2,
              fc48_3, fc48_4, fc48_5, fc48_6, fc48_7, fc48_8, fc48_9, fc48_10, fc48_11, fc48_12, fc48_13, fc48_14, fc48_15, fc48_16, fc48_17, fc48_18, fc48_19, fc48_20, fc48_21,
              fc48_22, fc48_23, fc48_24, fc48_25, cast_lit, toNat_lit, Int.reduceAdd, Int.reduceSub, Int.reduceMul, Int.reduceNeg, Int.reducePow, Nat.reducePow, Int.reduceToNat,
              Nat.reduceSub, Nat.mul_one, Int.toNat_zero, prod_eta, List.nil_append, List.cons_append, List.append_nil, Int.le_refl, Nat.le_refl, true_implies, take_all, vconv, vmm,
              vidxA, viaddrA, iaddr_sl, iaddr_lsl, getE, vfield, vlen, fillC, fillE, List.replicate, elemsOf, List.length_map, f2iK_eq, bits_i64, bits_i32, bits_u64, bits_u32,
              bits_u8, e_mov, g_mov, e_alloc, g_alloc, e_box, g_box, e_build, g_build, e_load, g_load, e_store, g_store, e_bin, g_bin, e_faddr, g_faddr, dF32_map, dF64_map,
              dI64_map, dU8_map, dBool_map, dStr_map, decL, dF32, dF64, dI64, dU8, dBool, dStr]))
    all_goals (try simp only [*, m_impl_ScaleVector, Bool.and_true, Bool.true_and, Bool.and_false, Bool.false_and, Bool.or_true, Bool.true_or, Bool.or_false, Bool.false_or, Bool.not_true, Bool.not_false, Bool.false_eq_true, if_true, if_false, reduceIte, decide_true, decide_false])
    all_goals (try (simp_all; done))
  · cases h
def m_impl_TurnAbout (x0 : (Nat × Nat × Nat)) (x1 : Nat) : (Nat × Nat × Nat × Nat) := (if (m_impl_isLength (m_impl_LongOf x0)) = true then (m_impl_turnOf (narrow (m_impl_wideSine
      (fadd .f64 (fdiv .f64 (widen x1) 4611686018427387904) 4598175219545276416))) (m_impl_ScaleVector (m_impl_Vector_over x0 (m_impl_LongOf x0)) (narrow (m_impl_wideSine (fdiv .f64
      (widen x1) 4611686018427387904))))) else (m_impl_NoTurn))
def p_impl_TurnAbout (x0 : (Nat × Nat × Nat)) (x1 : Nat) : Bool := ((p_impl_LongOf x0) && (!(m_impl_isLength (m_impl_LongOf x0)) || ((narrowOk (m_impl_wideSine (fdiv .f64 (widen x1)
      4611686018427387904))) && (narrowOk (m_impl_wideSine (fadd .f64 (fdiv .f64 (widen x1) 4611686018427387904) 4598175219545276416))))))
def g_impl_TurnAbout : List AV → Option AV
  | [.agg [.flt .f32 y0, .flt .f32 y1, .flt .f32 y2], .flt .f32 y3] => if p_impl_TurnAbout (y0, y1, y2) y3 = true then some (AV.agg [(.flt
      .f32 (m_impl_TurnAbout (y0, y1, y2) y3).1), (.flt .f32 (m_impl_TurnAbout (y0, y1, y2) y3).2.1), (.flt .f32 (m_impl_TurnAbout (y0, y1, y2) y3).2.2.1), (.flt .f32
      (m_impl_TurnAbout (y0, y1, y2) y3).2.2.2)]) else none
  | _ => none
def ic27 : ICode := (.seq (.reg [⟨(some 2), none, (.box 3 (.t 0))⟩, ⟨(some 4), none, (.alloc (.agg [(.flt .f32 0), (.flt .f32 0), (.flt .f32 0), (.flt .f32 0)]))⟩] [1, 2, 4]) (.seq
      (.reg [⟨(some 9), none, (.load (some 3) (.t 2))⟩, ⟨(some 10), none, (.call (.fn 42) [(.t 9)] [])⟩, ⟨(some 5), none, (.mov (.t 10))⟩] [1, 2, 4, 5]) (.seq (.seq (.reg [⟨(some
      11), none, (.mov (.t 5))⟩, ⟨(some 12), none, (.call (.fn 44) [(.t 11)] [])⟩, ⟨(some 13), none, (.un .not (.t 12))⟩] [1, 2, 4, 5, 13]) (.cond (.t 13) (.seq (.reg [⟨(some 14),
      none, (.call (.fn 64) [] [])⟩, ⟨none, none, (.store 4 (.t 4) (.t 14))⟩] [4]) .ret) .skip)) (.seq (.reg [⟨(some 15), none, (.mov (.t 1))⟩, ⟨(some 16), none, (.conv (.flt .f64)
      (.t 15))⟩, ⟨(some 17), none, (.bin .quo false (.t 16) (.c (.flt .f64 4611686018427387904)))⟩, ⟨(some 6), none, (.mov (.t 17))⟩] [2, 4, 5, 6]) (.seq (.reg [⟨(some 18), none,
      (.mov (.t 6))⟩, ⟨(some 19), none, (.call (.fn 54) [(.t 18)] [])⟩, ⟨(some 20), none, (.conv (.flt .f32) (.t 19))⟩, ⟨(some 21), none, (.mov (.t 6))⟩, ⟨(some 22), none, (.bin
      .add false (.t 21) (.c (.flt .f64 4598175219545276416)))⟩, ⟨(some 23), none, (.call (.fn 54) [(.t 22)] [])⟩, ⟨(some 24), none, (.conv (.flt .f32) (.t 23))⟩, ⟨(some 7), none,
      (.mov (.t 20))⟩, ⟨(some 8), none, (.mov (.t 24))⟩] [2, 4, 5, 7, 8]) (.seq (.reg [⟨(some 25), none, (.mov (.t 8))⟩, ⟨(some 26), none, (.load (some 3) (.t 2))⟩, ⟨(some 27),
      none, (.mov (.t 5))⟩, ⟨(some 28), none, (.call (.fn 45) [(.t 26), (.t 27)] [])⟩, ⟨(some 29), none, (.mov (.t 7))⟩, ⟨(some 30), none, (.call (.fn 48) [(.t 28), (.t 29)] [])⟩,
      ⟨(some 31), none, (.call (.fn 65) [(.t 25), (.t 30)] [])⟩, ⟨none, none, (.store 4 (.t 4) (.t 31))⟩] [4]) .ret))))))
def cp27 : CP := { n := 32, kp := [[1, 2, 4], [1, 2, 4, 5], [1, 2, 4, 5, 13], [4], [2, 4, 5, 6], [2, 4, 5, 7, 8], [4]] }
theorem fc27_0 : IntKind.wrap .i64 (-1) = (-1) := by decide
theorem fc27_1 : IntKind.wrap .i64 0 = 0 := by decide
theorem fc27_2 : IntKind.wrap .i64 1 = 1 := by decide
theorem fc27_3 : IntKind.wrap .i64 10 = 10 := by decide
theorem fc27_4 : IntKind.wrap .i64 11 = 11 := by decide
theorem fc27_5 : IntKind.wrap .i64 110 = 110 := by decide
theorem fc27_6 : IntKind.wrap .i64 12 = 12 := by decide
theorem fc27_7 : IntKind.wrap .i64 13 = 13 := by decide
theorem fc27_8 : IntKind.wrap .i64 14 = 14 := by decide
theorem fc27_9 : IntKind.wrap .i64 15 = 15 := by decide
theorem fc27_10 : IntKind.wrap .i64 156 = 156 := by decide
theorem fc27_11 : IntKind.wrap .i64 16 = 16 := by decide
theorem fc27_12 : IntKind.wrap .i64 17 = 17 := by decide
theorem fc27_13 : IntKind.wrap .i64 2 = 2 := by decide
theorem fc27_14 : IntKind.wrap .i64 20 = 20 := by decide
theorem fc27_15 : IntKind.wrap .i64 210 = 210 := by decide
theorem fc27_16 : IntKind.wrap .i64 272 = 272 := by decide
theorem fc27_17 : IntKind.wrap .i64 3 = 3 := by decide
theorem fc27_18 : IntKind.wrap .i64 4 = 4 := by decide
theorem fc27_19 : IntKind.wrap .i64 42 = 42 := by decide
theorem fc27_20 : IntKind.wrap .i64 5 = 5 := by decide
theorem fc27_21 : IntKind.wrap .i64 6 = 6 := by decide
theorem fc27_22 : IntKind.wrap .i64 7 = 7 := by decide
theorem fc27_23 : IntKind.wrap .i64 72 = 72 := by decide
theorem fc27_24 : IntKind.wrap .i64 8 = 8 := by decide
theorem fc27_25 : IntKind.wrap .i64 9 = 9 := by decide
theorem s27 : ∀ vs r, g_impl_TurnAbout vs = some r → Says Try.prog 27 vs r := by
  intro vs r h
  unfold g_impl_TurnAbout at h
  split at h
  · rename_i y0 y1 y2 y3
    split at h
    · rename_i hp
      cases h
      refine spec_of (tab := tabOf [(42, g_impl_LongOf), (44, g_impl_isLength), (45, g_impl_Vector_over), (48, g_impl_ScaleVector), (54, g_impl_wideSine), (64, g_impl_NoTurn), (65, g_impl_turnOf)]) (cp := cp27) (ic := ic27) (rvl := [(.c 4 (some 4))]) hm (tabOk_cons s42 (tabOk_cons s44 (tabOk_cons s45 (tabOk_cons s48 (tabOk_cons s54 (tabOk_cons s64 (tabOk_cons s65 tabOk_nil))))))) Try.func27 rfl rfl rfl (by kernel_rfl) rfl (Nat.le_of_ble_eq_true rfl) ?_
      show eA _ _ _ _
      unfold ic27
      simp only [p_impl_TurnAbout, Bool.and_eq_true, Bool.or_eq_true, decide_eq_true_eq, Bool.not_eq_true', decide_eq_false_iff_not] at hp
      simp only [
          hp, eA_seq, eA_reg, eA_ret, eA_skip, eA_cond, eA_block, eA_exit, eCc_true, eCc_false, Kq_normal, Kq_ret, Kq_exit, Kb_normal, Kb_exit, Kb_ret, Kreg_eq, eI_nil, bindSt_some,
                bindSt_none, bindSt_ite, eR_eq, eGI_tt, eGI_ff, eGI_tf, eGI_ft, eop, vop, ev_t, ev_c, ev_f, Option.map, put_some, put_none, set_eq, setH_eq, get_eq, hp_eq,
                keep_cons, keep_nil, lk_cons, lk_nil, startSt, envOf, reduceIte, Nat.reduceEqDiff, Nat.reduceAdd, Nat.zero_add, Nat.add_zero, Nat.reduceMul, Nat.reduceLT,
                Nat.reduceLeDiff, bop, uop, intop, fltop, convop, true_or, or_true, Bool.false_eq_true, ret_ok, ret_normal, outV, rvV, rvs, ex_some, pureV, pureX, pureX.pure1',
                pure1, Bool.true_and, Bool.false_and, Bool.and_true, Bool.and_false, Option.isNone_none, AV.cells, AV.one, storable, laid, refless, refless1, List.all_cons,
                List.all_nil, List.length_cons, List.length_nil, List.getElem?_cons_zero, List.getElem?_cons_succ, List.set_cons_zero, List.set_cons_succ, List.set_nil,
                List.map_cons, List.map_nil, vload, loadC, storeC, vnil, vfaddr, vextract, callTo, List.mapM_cons, List.mapM_nil, Option.pure_def, Option.bind_eq_bind,
                Option.bind_some, tabOf_cons, flatT, flatE, flatC, and_self, and_true, true_and, implies_true, forall_const, not_true_eq_false, not_false_eq_true, false_implies,
                List.take_succ_cons, List.drop_succ_cons, List.take_zero, List.drop_zero, Bool.not_true, Bool.not_false, beq_self_eq_true, decide_true, decide_false, eq_self,
                Int.reduceEq, Int.reduceLE, Int.reduceLT, Bool.not_not, Bool.true_or, Bool.or_true, Bool.false_or, Bool.or_false, if_true, if_false, List.getElem?_nil, Kl_normal,
                Kl_exit, Kl_ret, fc27_0, fc27_1, fc27_2, fc27_3, fc27_4, fc27_5, fc27_6, fc27_7, fc27_8, fc27_9, fc27_10, fc27_11, fc27_12, fc27_13, fc27_14, fc27_15, fc27_16,
                fc27_17, fc27_18, fc27_19, fc27_20, fc27_21, fc27_22, fc27_23, fc27_24, fc27_25, cast_lit, toNat_lit, Int.reduceAdd, Int.reduceSub, Int.reduceMul, Int.reduceNeg,
                Int.reducePow, Nat.reducePow, Int.reduceToNat, Nat.reduceSub, Nat.mul_one, Int.toNat_zero, prod_eta, List.nil_append, List.cons_append, List.append_nil, Int.le_refl,
                Nat.le_refl, true_implies, take_all, vconv, vmm, vidxA, viaddrA, iaddr_sl, iaddr_lsl, getE, vfield, vlen, fillC, fillE, List.replicate, elemsOf, List.length_map,
                f2iK_eq, bits_i64, bits_i32, bits_u64, bits_u32, bits_u8, e_mov, g_mov, e_alloc, g_alloc, e_box, g_box, e_load, g_load, e_store, g_store, e_bin, g_bin, e_un, g_un,
                e_conv, g_conv, e_call, g_call, g_impl_LongOf, g_impl_isLength, g_impl_Vector_over, g_impl_ScaleVector, g_impl_wideSine, g_impl_NoTurn, g_impl_turnOf, dF32_map,
                dF64_map, dI64_map, dU8_map, dBool_map, dStr_map, decL, dF32, dF64, dI64, dU8, dBool, dStr]
      repeat' (first
        | ((first | (refine eGI_of (fun h => ?_) (fun h => ?_)) | (refine eCc_of (fun h => ?_) (fun h => ?_))) <;> (try simp only [Bool.not_eq_true', Bool.not_eq_false'] at h) <;> (try simp only [h, reduceCtorEq, Bool.not_eq_true', decide_eq_false_iff_not, Bool.not_true, Bool.not_false, Bool.false_or, Bool.true_or, Bool.true_and, Bool.false_and, Bool.and_eq_true, Bool.or_eq_true, if_true, if_false, reduceIte, Bool.false_eq_true, and_true, true_and, false_or, or_false, decide_eq_true_eq, not_false_eq_true, not_true_eq_false] at hp) <;> (try (have h2 := h; simp only [decide_eq_true_eq, decide_eq_false_iff_not] at h2; (first | (replace h2 := eq_false h2) | (replace h2 := eq_true h2)); simp only [h2, if_true, if_false, false_or, true_or, or_true, or_false, and_true, true_and, not_false_eq_true, not_true_eq_false] at hp)) <;> simp only [h,
          hp, eA_seq, eA_reg, eA_ret, eA_skip, eA_cond, eA_block, eA_exit, eCc_true, eCc_false, Kq_normal, Kq_ret, Kq_exit, Kb_normal, Kb_exit, Kb_ret, Kreg_eq, eI_nil, bindSt_some,
                bindSt_none, bindSt_ite, eR_eq, eGI_tt, eGI_ff, eGI_tf, eGI_ft, eop, vop, ev_t, ev_c, ev_f, Option.map, put_some, put_none, set_eq, setH_eq, get_eq, hp_eq,
                keep_cons, keep_nil, lk_cons, lk_nil, startSt, envOf, reduceIte, Nat.reduceEqDiff, Nat.reduceAdd, Nat.zero_add, Nat.add_zero, Nat.reduceMul, Nat.reduceLT,
                Nat.reduceLeDiff, bop, uop, intop, fltop, convop, true_or, or_true, Bool.false_eq_true, ret_ok, ret_normal, outV, rvV, rvs, ex_some, pureV, pureX, pureX.pure1',
                pure1, Bool.true_and, Bool.false_and, Bool.and_true, Bool.and_false, Option.isNone_none, AV.cells, AV.one, storable, laid, refless, refless1, List.all_cons,
                List.all_nil, List.length_cons, List.length_nil, List.getElem?_cons_zero, List.getElem?_cons_succ, List.set_cons_zero, List.set_cons_succ, List.set_nil,
                List.map_cons, List.map_nil, vload, loadC, storeC, vnil, vfaddr, vextract, callTo, List.mapM_cons, List.mapM_nil, Option.pure_def, Option.bind_eq_bind,
                Option.bind_some, tabOf_cons, flatT, flatE, flatC, and_self, and_true, true_and, implies_true, forall_const, not_true_eq_false, not_false_eq_true, false_implies,
                List.take_succ_cons, List.drop_succ_cons, List.take_zero, List.drop_zero, Bool.not_true, Bool.not_false, beq_self_eq_true, decide_true, decide_false, eq_self,
                Int.reduceEq, Int.reduceLE, Int.reduceLT, Bool.not_not, Bool.true_or, Bool.or_true, Bool.false_or, Bool.or_false, if_true, if_false, List.getElem?_nil, Kl_normal,
                Kl_exit, Kl_ret, fc27_0, fc27_1, fc27_2, fc27_3, fc27_4, fc27_5, fc27_6, fc27_7, fc27_8, fc27_9, fc27_10, fc27_11, fc27_12, fc27_13, fc27_14, fc27_15, fc27_16,
                fc27_17, fc27_18, fc27_19, fc27_20, fc27_21, fc27_22, fc27_23, fc27_24, fc27_25, cast_lit, toNat_lit, Int.reduceAdd, Int.reduceSub, Int.reduceMul, Int.reduceNeg,
                Int.reducePow, Nat.reducePow, Int.reduceToNat, Nat.reduceSub, Nat.mul_one, Int.toNat_zero, prod_eta, List.nil_append, List.cons_append, List.append_nil, Int.le_refl,
                Nat.le_refl, true_implies, take_all, vconv, vmm, vidxA, viaddrA, iaddr_sl, iaddr_lsl, getE, vfield, vlen, fillC, fillE, List.replicate, elemsOf, List.length_map,
                f2iK_eq, bits_i64, bits_i32, bits_u64, bits_u32, bits_u8, e_mov, g_mov, e_alloc, g_alloc, e_box, g_box, e_load, g_load, e_store, g_store, e_bin, g_bin, e_un, g_un,
                e_conv, g_conv, e_call, g_call, g_impl_LongOf, g_impl_isLength, g_impl_Vector_over, g_impl_ScaleVector, g_impl_wideSine, g_impl_NoTurn, g_impl_turnOf, dF32_map,
                dF64_map, dI64_map, dU8_map, dBool_map, dStr_map, decL, dF32, dF64, dI64, dU8, dBool, dStr]))
      all_goals (try simp only [*, m_impl_TurnAbout, Bool.and_true, Bool.true_and, Bool.and_false, Bool.false_and, Bool.or_true, Bool.true_or, Bool.or_false, Bool.false_or, Bool.not_true, Bool.not_false, Bool.false_eq_true, if_true, if_false, reduceIte, decide_true, decide_false])
      all_goals (try (simp_all; done))
    · cases h
  · cases h
def m_impl_LimitAngle (x0 : (Nat × Nat × Nat × Nat)) (x1 : Nat) : (Nat × Nat × Nat × Nat) := (if (flt .f32 x1 (m_impl_AngleOf x0)) = true then (m_impl_TurnAbout (m_impl_AxisOf x0)
      x1) else x0)
def p_impl_LimitAngle (x0 : (Nat × Nat × Nat × Nat)) (x1 : Nat) : Bool := ((p_impl_AngleOf x0) && (!(flt .f32 x1 (m_impl_AngleOf x0)) || ((p_impl_AxisOf x0) && (p_impl_TurnAbout
      (m_impl_AxisOf x0) x1))))
def g_impl_LimitAngle : List AV → Option AV
  | [.agg [.flt .f32 y0, .flt .f32 y1, .flt .f32 y2, .flt .f32 y3], .flt .f32 y4] => if p_impl_LimitAngle (y0, y1, y2, y3) y4 = true then
      some (AV.agg [(.flt .f32 (m_impl_LimitAngle (y0, y1, y2, y3) y4).1), (.flt .f32 (m_impl_LimitAngle (y0, y1, y2, y3) y4).2.1), (.flt .f32 (m_impl_LimitAngle (y0, y1, y2, y3)
      y4).2.2.1), (.flt .f32 (m_impl_LimitAngle (y0, y1, y2, y3) y4).2.2.2)]) else none
  | _ => none
def ic32 : ICode := (.seq (.reg [⟨(some 2), none, (.box 4 (.t 0))⟩, ⟨(some 4), none, (.alloc (.agg [(.flt .f32 0), (.flt .f32 0), (.flt .f32 0), (.flt .f32 0)]))⟩] [1, 2, 4]) (.seq
      (.seq (.reg [⟨(some 6), none, (.load (some 4) (.t 2))⟩, ⟨(some 7), none, (.call (.fn 67) [(.t 6)] [])⟩, ⟨(some 5), none, (.mov (.t 7))⟩] [1, 2, 4, 5]) (.seq (.reg [⟨(some 8),
      none, (.mov (.t 5))⟩, ⟨(some 9), none, (.mov (.t 1))⟩, ⟨(some 10), none, (.bin .gtr false (.t 8) (.t 9))⟩, ⟨(some 11), none, (.un .not (.t 10))⟩] [1, 2, 4, 11]) (.cond (.t 11)
      (.seq (.reg [⟨(some 12), none, (.load (some 4) (.t 2))⟩, ⟨none, none, (.store 4 (.t 4) (.t 12))⟩] [4]) .ret) .skip))) (.seq (.reg [⟨(some 13), none, (.load (some 4) (.t 2))⟩,
      ⟨(some 14), none, (.call (.fn 68) [(.t 13)] [])⟩, ⟨(some 15), none, (.mov (.t 1))⟩, ⟨(some 16), none, (.call (.fn 27) [(.t 14), (.t 15)] [])⟩, ⟨none, none, (.store 4 (.t 4)
      (.t 16))⟩] [4]) .ret)))
def cp32 : CP := { n := 17, kp := [[1, 2, 4], [1, 2, 4, 5], [1, 2, 4, 11], [4], [4]] }
theorem fc32_0 : IntKind.wrap .i64 (-1) = (-1) := by decide
theorem fc32_1 : IntKind.wrap .i64 0 = 0 := by decide
theorem fc32_2 : IntKind.wrap .i64 1 = 1 := by decide
theorem fc32_3 : IntKind.wrap .i64 10 = 10 := by decide
theorem fc32_4 : IntKind.wrap .i64 11 = 11 := by decide
theorem fc32_5 : IntKind.wrap .i64 110 = 110 := by decide
theorem fc32_6 : IntKind.wrap .i64 12 = 12 := by decide
theorem fc32_7 : IntKind.wrap .i64 13 = 13 := by decide
theorem fc32_8 : IntKind.wrap .i64 14 = 14 := by decide
theorem fc32_9 : IntKind.wrap .i64 15 = 15 := by decide
theorem fc32_10 : IntKind.wrap .i64 156 = 156 := by decide
theorem fc32_11 : IntKind.wrap .i64 16 = 16 := by decide
theorem fc32_12 : IntKind.wrap .i64 17 = 17 := by decide
theorem fc32_13 : IntKind.wrap .i64 2 = 2 := by decide
theorem fc32_14 : IntKind.wrap .i64 20 = 20 := by decide
theorem fc32_15 : IntKind.wrap .i64 210 = 210 := by decide
theorem fc32_16 : IntKind.wrap .i64 272 = 272 := by decide
theorem fc32_17 : IntKind.wrap .i64 3 = 3 := by decide
theorem fc32_18 : IntKind.wrap .i64 4 = 4 := by decide
theorem fc32_19 : IntKind.wrap .i64 42 = 42 := by decide
theorem fc32_20 : IntKind.wrap .i64 5 = 5 := by decide
theorem fc32_21 : IntKind.wrap .i64 6 = 6 := by decide
theorem fc32_22 : IntKind.wrap .i64 7 = 7 := by decide
theorem fc32_23 : IntKind.wrap .i64 72 = 72 := by decide
theorem fc32_24 : IntKind.wrap .i64 8 = 8 := by decide
theorem fc32_25 : IntKind.wrap .i64 9 = 9 := by decide
theorem s32 : ∀ vs r, g_impl_LimitAngle vs = some r → Says Try.prog 32 vs r := by
  intro vs r h
  unfold g_impl_LimitAngle at h
  split at h
  · rename_i y0 y1 y2 y3 y4
    split at h
    · rename_i hp
      cases h
      refine spec_of (tab := tabOf [(27, g_impl_TurnAbout), (67, g_impl_AngleOf), (68, g_impl_AxisOf)]) (cp := cp32) (ic := ic32) (rvl := [(.c 4 (some 4))]) hm (tabOk_cons s27 (tabOk_cons s67 (tabOk_cons s68 tabOk_nil))) Try.func32 rfl rfl rfl (by kernel_rfl) rfl (Nat.le_of_ble_eq_true rfl) ?_
      show eA _ _ _ _
      unfold ic32
      simp only [p_impl_LimitAngle, Bool.and_eq_true, Bool.or_eq_true, decide_eq_true_eq, Bool.not_eq_true', decide_eq_false_iff_not] at hp
      simp only [
          hp, eA_seq, eA_reg, eA_ret, eA_skip, eA_cond, eA_block, eA_exit, eCc_true, eCc_false, Kq_normal, Kq_ret, Kq_exit, Kb_normal, Kb_exit, Kb_ret, Kreg_eq, eI_nil, bindSt_some,
                bindSt_none, bindSt_ite, eR_eq, eGI_tt, eGI_ff, eGI_tf, eGI_ft, eop, vop, ev_t, ev_c, ev_f, Option.map, put_some, put_none, set_eq, setH_eq, get_eq, hp_eq,
                keep_cons, keep_nil, lk_cons, lk_nil, startSt, envOf, reduceIte, Nat.reduceEqDiff, Nat.reduceAdd, Nat.zero_add, Nat.add_zero, Nat.reduceMul, Nat.reduceLT,
                Nat.reduceLeDiff, bop, uop, intop, fltop, convop, true_or, or_true, Bool.false_eq_true, ret_ok, ret_normal, outV, rvV, rvs, ex_some, pureV, pureX, pureX.pure1',
                pure1, Bool.true_and, Bool.false_and, Bool.and_true, Bool.and_false, Option.isNone_none, AV.cells, AV.one, storable, laid, refless, refless1, List.all_cons,
                List.all_nil, List.length_cons, List.length_nil, List.getElem?_cons_zero, List.getElem?_cons_succ, List.set_cons_zero, List.set_cons_succ, List.set_nil,
                List.map_cons, List.map_nil, vload, loadC, storeC, vnil, vfaddr, vextract, callTo, List.mapM_cons, List.mapM_nil, Option.pure_def, Option.bind_eq_bind,
                Option.bind_some, tabOf_cons, flatT, flatE, flatC, and_self, and_true, true_and, implies_true, forall_const, not_true_eq_false, not_false_eq_true, false_implies,
                List.take_succ_cons, List.drop_succ_cons, List.take_zero, List.drop_zero, Bool.not_true, Bool.not_false, beq_self_eq_true, decide_true, decide_false, eq_self,
                Int.reduceEq, Int.reduceLE, Int.reduceLT, Bool.not_not, Bool.true_or, Bool.or_true, Bool.false_or, Bool.or_false, if_true, if_false, List.getElem?_nil, Kl_normal,
                Kl_exit, Kl_ret, fc32_0, fc32_1, fc32_2, fc32_3, fc32_4, fc32_5, fc32_6, fc32_7, fc32_8, fc32_9, fc32_10, fc32_11, fc32_12, fc32_13, fc32_14, fc32_15, fc32_16,
                fc32_17, fc32_18, fc32_19, fc32_20, fc32_21, fc32_22, fc32_23, fc32_24, fc32_25, cast_lit, toNat_lit, Int.reduceAdd, Int.reduceSub, Int.reduceMul, Int.reduceNeg,
                Int.reducePow, Nat.reducePow, Int.reduceToNat, Nat.reduceSub, Nat.mul_one, Int.toNat_zero, prod_eta, List.nil_append, List.cons_append, List.append_nil, Int.le_refl,
                Nat.le_refl, true_implies, take_all, vconv, vmm, vidxA, viaddrA, iaddr_sl, iaddr_lsl, getE, vfield, vlen, fillC, fillE, List.replicate, elemsOf, List.length_map,
                f2iK_eq, bits_i64, bits_i32, bits_u64, bits_u32, bits_u8, e_mov, g_mov, e_alloc, g_alloc, e_box, g_box, e_load, g_load, e_store, g_store, e_bin, g_bin, e_un, g_un,
                e_call, g_call, g_impl_TurnAbout, g_impl_AngleOf, g_impl_AxisOf, dF32_map, dF64_map, dI64_map, dU8_map, dBool_map, dStr_map, decL, dF32, dF64, dI64, dU8, dBool, dStr]
      repeat' (first
        | ((first | (refine eGI_of (fun h => ?_) (fun h => ?_)) | (refine eCc_of (fun h => ?_) (fun h => ?_))) <;> (try simp only [Bool.not_eq_true', Bool.not_eq_false'] at h) <;> (try simp only [h, reduceCtorEq, Bool.not_eq_true', decide_eq_false_iff_not, Bool.not_true, Bool.not_false, Bool.false_or, Bool.true_or, Bool.true_and, Bool.false_and, Bool.and_eq_true, Bool.or_eq_true, if_true, if_false, reduceIte, Bool.false_eq_true, and_true, true_and, false_or, or_false, decide_eq_true_eq, not_false_eq_true, not_true_eq_false] at hp) <;> (try (have h2 := h; simp only [decide_eq_true_eq, decide_eq_false_iff_not] at h2; (first | (replace h2 := eq_false h2) | (replace h2 := eq_true h2)); simp only [h2, if_true, if_false, false_or, true_or, or_true, or_false, and_true, true_and, not_false_eq_true, not_true_eq_false] at hp)) <;> simp only [h,
          hp, eA_seq, eA_reg, eA_ret, eA_skip, eA_cond, eA_block, eA_exit, eCc_true, eCc_false, Kq_normal, Kq_ret, Kq_exit, Kb_normal, Kb_exit, Kb_ret, Kreg_eq, eI_nil, bindSt_some,
                bindSt_none, bindSt_ite, eR_eq, eGI_tt, eGI_ff, eGI_tf, eGI_ft, eop, vop, ev_t, ev_c, ev_f, Option.map, put_some, put_none, set_eq, setH_eq, get_eq, hp_eq,
                keep_cons, keep_nil, lk_cons, lk_nil, startSt, envOf, reduceIte, Nat.reduceEqDiff, Nat.reduceAdd, Nat.zero_add, Nat.add_zero, Nat.reduceMul, Nat.reduceLT,
                Nat.reduceLeDiff, bop, uop, intop, fltop, convop, true_or, or_true, Bool.false_eq_true, ret_ok, ret_normal, outV, rvV, rvs, ex_some, pureV, pureX, pureX.pure1',
                pure1, Bool.true_and, Bool.false_and, Bool.and_true, Bool.and_false, Option.isNone_none, AV.cells, AV.one, storable, laid, refless, refless1, List.all_cons,
                List.all_nil, List.length_cons, List.length_nil, List.getElem?_cons_zero, List.getElem?_cons_succ, List.set_cons_zero, List.set_cons_succ, List.set_nil,
                List.map_cons, List.map_nil, vload, loadC, storeC, vnil, vfaddr, vextract, callTo, List.mapM_cons, List.mapM_nil, Option.pure_def, Option.bind_eq_bind,
                Option.bind_some, tabOf_cons, flatT, flatE, flatC, and_self, and_true, true_and, implies_true, forall_const, not_true_eq_false, not_false_eq_true, false_implies,
                List.take_succ_cons, List.drop_succ_cons, List.take_zero, List.drop_zero, Bool.not_true, Bool.not_false, beq_self_eq_true, decide_true, decide_false, eq_self,
                Int.reduceEq, Int.reduceLE, Int.reduceLT, Bool.not_not, Bool.true_or, Bool.or_true, Bool.false_or, Bool.or_false, if_true, if_false, List.getElem?_nil, Kl_normal,
                Kl_exit, Kl_ret, fc32_0, fc32_1, fc32_2, fc32_3, fc32_4, fc32_5, fc32_6, fc32_7, fc32_8, fc32_9, fc32_10, fc32_11, fc32_12, fc32_13, fc32_14, fc32_15, fc32_16,
                fc32_17, fc32_18, fc32_19, fc32_20, fc32_21, fc32_22, fc32_23, fc32_24, fc32_25, cast_lit, toNat_lit, Int.reduceAdd, Int.reduceSub, Int.reduceMul, Int.reduceNeg,
                Int.reducePow, Nat.reducePow, Int.reduceToNat, Nat.reduceSub, Nat.mul_one, Int.toNat_zero, prod_eta, List.nil_append, List.cons_append, List.append_nil, Int.le_refl,
                Nat.le_refl, true_implies, take_all, vconv, vmm, vidxA, viaddrA, iaddr_sl, iaddr_lsl, getE, vfield, vlen, fillC, fillE, List.replicate, elemsOf, List.length_map,
                f2iK_eq, bits_i64, bits_i32, bits_u64, bits_u32, bits_u8, e_mov, g_mov, e_alloc, g_alloc, e_box, g_box, e_load, g_load, e_store, g_store, e_bin, g_bin, e_un, g_un,
                e_call, g_call, g_impl_TurnAbout, g_impl_AngleOf, g_impl_AxisOf, dF32_map, dF64_map, dI64_map, dU8_map, dBool_map, dStr_map, decL, dF32, dF64, dI64, dU8, dBool, dStr]))
      all_goals (try simp only [*, m_impl_LimitAngle, Bool.and_true, Bool.true_and, Bool.and_false, Bool.false_and, Bool.or_true, Bool.true_or, Bool.or_false, Bool.false_or, Bool.not_true, Bool.not_false, Bool.false_eq_true, if_true, if_false, reduceIte, decide_true, decide_false])
      all_goals (try (simp_all; done))
    · cases h
  · cases h
def m_impl_LookAt (x0 : (Nat × Nat × Nat)) (x1 : (Nat × Nat × Nat)) (x2 : (Nat × Nat × Nat)) (x3 : Nat) : (Nat × Nat × Nat × Nat) := (m_impl_LimitAngle (m_impl_TurnBetween x2
      (m_impl_LessVectors x1 x0)) x3)
def p_impl_LookAt (x0 : (Nat × Nat × Nat)) (x1 : (Nat × Nat × Nat)) (x2 : (Nat × Nat × Nat)) (x3 : Nat) : Bool := ((p_impl_TurnBetween x2 (m_impl_LessVectors x1 x0)) &&
      (p_impl_LimitAngle (m_impl_TurnBetween x2 (m_impl_LessVectors x1 x0)) x3))
def g_impl_LookAt : List AV → Option AV
  | [.agg [.flt .f32 y0, .flt .f32 y1, .flt .f32 y2], .agg [.flt .f32 y3, .flt .f32 y4, .flt .f32 y5], .agg [.flt .f32 y6, .flt .f32 y7, .flt
      .f32 y8], .flt .f32 y9] => if p_impl_LookAt (y0, y1, y2) (y3, y4, y5) (y6, y7, y8) y9 = true then some (AV.agg [(.flt .f32 (m_impl_LookAt (y0, y1, y2) (y3, y4, y5) (y6, y7,
      y8) y9).1), (.flt .f32 (m_impl_LookAt (y0, y1, y2) (y3, y4, y5) (y6, y7, y8) y9).2.1), (.flt .f32 (m_impl_LookAt (y0, y1, y2) (y3, y4, y5) (y6, y7, y8) y9).2.2.1), (.flt .f32
      (m_impl_LookAt (y0, y1, y2) (y3, y4, y5) (y6, y7, y8) y9).2.2.2)]) else none
  | _ => none
def ic34 : ICode := (.seq (.reg [⟨(some 4), none, (.box 3 (.t 0))⟩, ⟨(some 5), none, (.box 3 (.t 1))⟩, ⟨(some 6), none, (.box 3 (.t 2))⟩, ⟨(some 8), none, (.alloc (.agg [(.flt .f32
      0), (.flt .f32 0), (.flt .f32 0), (.flt .f32 0)]))⟩] [3, 4, 5, 6, 8]) (.seq (.reg [⟨(some 9), none, (.load (some 3) (.t 6))⟩, ⟨(some 10), none, (.load (some 3) (.t 5))⟩,
      ⟨(some 11), none, (.load (some 3) (.t 4))⟩, ⟨(some 12), none, (.call (.fn 47) [(.t 10), (.t 11)] [])⟩, ⟨(some 13), none, (.call (.fn 70) [(.t 9), (.t 12)] [])⟩, ⟨(some 14),
      none, (.mov (.t 3))⟩, ⟨(some 15), none, (.call (.fn 32) [(.t 13), (.t 14)] [])⟩, ⟨none, none, (.store 4 (.t 8) (.t 15))⟩] [8]) .ret))
def cp34 : CP := { n := 16, kp := [[3, 4, 5, 6, 8], [8]] }
theorem fc34_0 : IntKind.wrap .i64 (-1) = (-1) := by decide
theorem fc34_1 : IntKind.wrap .i64 0 = 0 := by decide
theorem fc34_2 : IntKind.wrap .i64 1 = 1 := by decide
theorem fc34_3 : IntKind.wrap .i64 10 = 10 := by decide
theorem fc34_4 : IntKind.wrap .i64 11 = 11 := by decide
theorem fc34_5 : IntKind.wrap .i64 110 = 110 := by decide
theorem fc34_6 : IntKind.wrap .i64 12 = 12 := by decide
theorem fc34_7 : IntKind.wrap .i64 13 = 13 := by decide
theorem fc34_8 : IntKind.wrap .i64 14 = 14 := by decide
theorem fc34_9 : IntKind.wrap .i64 15 = 15 := by decide
theorem fc34_10 : IntKind.wrap .i64 156 = 156 := by decide
theorem fc34_11 : IntKind.wrap .i64 16 = 16 := by decide
theorem fc34_12 : IntKind.wrap .i64 17 = 17 := by decide
theorem fc34_13 : IntKind.wrap .i64 2 = 2 := by decide
theorem fc34_14 : IntKind.wrap .i64 20 = 20 := by decide
theorem fc34_15 : IntKind.wrap .i64 210 = 210 := by decide
theorem fc34_16 : IntKind.wrap .i64 272 = 272 := by decide
theorem fc34_17 : IntKind.wrap .i64 3 = 3 := by decide
theorem fc34_18 : IntKind.wrap .i64 4 = 4 := by decide
theorem fc34_19 : IntKind.wrap .i64 42 = 42 := by decide
theorem fc34_20 : IntKind.wrap .i64 5 = 5 := by decide
theorem fc34_21 : IntKind.wrap .i64 6 = 6 := by decide
theorem fc34_22 : IntKind.wrap .i64 7 = 7 := by decide
theorem fc34_23 : IntKind.wrap .i64 72 = 72 := by decide
theorem fc34_24 : IntKind.wrap .i64 8 = 8 := by decide
theorem fc34_25 : IntKind.wrap .i64 9 = 9 := by decide
theorem s34 : ∀ vs r, g_impl_LookAt vs = some r → Says Try.prog 34 vs r := by
  intro vs r h
  unfold g_impl_LookAt at h
  split at h
  · rename_i y0 y1 y2 y3 y4 y5 y6 y7 y8 y9
    split at h
    · rename_i hp
      cases h
      refine spec_of (tab := tabOf [(32, g_impl_LimitAngle), (47, g_impl_LessVectors), (70, g_impl_TurnBetween)]) (cp := cp34) (ic := ic34) (rvl := [(.c 8 (some 4))]) hm (tabOk_cons s32 (tabOk_cons s47 (tabOk_cons s70 tabOk_nil))) Try.func34 rfl rfl rfl (by kernel_rfl) rfl (Nat.le_of_ble_eq_true rfl) ?_
      show eA _ _ _ _
      unfold ic34
      simp only [p_impl_LookAt, Bool.and_eq_true, Bool.or_eq_true, decide_eq_true_eq, Bool.not_eq_true', decide_eq_false_iff_not] at hp
      simp only [
          hp, eA_seq, eA_reg, eA_ret, eA_skip, eA_cond, eA_block, eA_exit, eCc_true, eCc_false, Kq_normal, Kq_ret, Kq_exit, Kb_normal, Kb_exit, Kb_ret, Kreg_eq, eI_nil, bindSt_some,
                bindSt_none, bindSt_ite, eR_eq, eGI_tt, eGI_ff, eGI_tf, eGI_ft, eop, vop, ev_t, ev_c, ev_f, Option.map, put_some, put_none, set_eq, setH_eq, get_eq, hp_eq,
                keep_cons, keep_nil, lk_cons, lk_nil, startSt, envOf, reduceIte, Nat.reduceEqDiff, Nat.reduceAdd, Nat.zero_add, Nat.add_zero, Nat.reduceMul, Nat.reduceLT,
                Nat.reduceLeDiff, bop, uop, intop, fltop, convop, true_or, or_true, Bool.false_eq_true, ret_ok, ret_normal, outV, rvV, rvs, ex_some, pureV, pureX, pureX.pure1',
                pure1, Bool.true_and, Bool.false_and, Bool.and_true, Bool.and_false, Option.isNone_none, AV.cells, AV.one, storable, laid, refless, refless1, List.all_cons,
                List.all_nil, List.length_cons, List.length_nil, List.getElem?_cons_zero, List.getElem?_cons_succ, List.set_cons_zero, List.set_cons_succ, List.set_nil,
                List.map_cons, List.map_nil, vload, loadC, storeC, vnil, vfaddr, vextract, callTo, List.mapM_cons, List.mapM_nil, Option.pure_def, Option.bind_eq_bind,
                Option.bind_some, tabOf_cons, flatT, flatE, flatC, and_self, and_true, true_and, implies_true, forall_const, not_true_eq_false, not_false_eq_true, false_implies,
                List.take_succ_cons, List.drop_succ_cons, List.take_zero, List.drop_zero, Bool.not_true, Bool.not_false, beq_self_eq_true, decide_true, decide_false, eq_self,
                Int.reduceEq, Int.reduceLE, Int.reduceLT, Bool.not_not, Bool.true_or, Bool.or_true, Bool.false_or, Bool.or_false, if_true, if_false, List.getElem?_nil, Kl_normal,
                Kl_exit, Kl_ret, fc34_0, fc34_1, fc34_2, fc34_3, fc34_4, fc34_5, fc34_6, fc34_7, fc34_8, fc34_9, fc34_10, fc34_11, fc34_12, fc34_13, fc34_14, fc34_15, fc34_16,
                fc34_17, fc34_18, fc34_19, fc34_20, fc34_21, fc34_22, fc34_23, fc34_24, fc34_25, cast_lit, toNat_lit, Int.reduceAdd, Int.reduceSub, Int.reduceMul, Int.reduceNeg,
                Int.reducePow, Nat.reducePow, Int.reduceToNat, Nat.reduceSub, Nat.mul_one, Int.toNat_zero, prod_eta, List.nil_append, List.cons_append, List.append_nil, Int.le_refl,
                Nat.le_refl, true_implies, take_all, vconv, vmm, vidxA, viaddrA, iaddr_sl, iaddr_lsl, getE, vfield, vlen, fillC, fillE, List.replicate, elemsOf, List.length_map,
                f2iK_eq, bits_i64, bits_i32, bits_u64, bits_u32, bits_u8, e_mov, g_mov, e_alloc, g_alloc, e_box, g_box, e_load, g_load, e_store, g_store, e_call, g_call,
                g_impl_LimitAngle, g_impl_LessVectors, g_impl_TurnBetween, dF32_map, dF64_map, dI64_map, dU8_map, dBool_map, dStr_map, decL, dF32, dF64, dI64, dU8, dBool, dStr]
      repeat' (first
        | ((first | (refine eGI_of (fun h => ?_) (fun h => ?_)) | (refine eCc_of (fun h => ?_) (fun h => ?_))) <;> (try simp only [Bool.not_eq_true', Bool.not_eq_false'] at h) <;> (try simp only [h, reduceCtorEq, Bool.not_eq_true', decide_eq_false_iff_not, Bool.not_true, Bool.not_false, Bool.false_or, Bool.true_or, Bool.true_and, Bool.false_and, Bool.and_eq_true, Bool.or_eq_true, if_true, if_false, reduceIte, Bool.false_eq_true, and_true, true_and, false_or, or_false, decide_eq_true_eq, not_false_eq_true, not_true_eq_false] at hp) <;> (try (have h2 := h; simp only [decide_eq_true_eq, decide_eq_false_iff_not] at h2; (first | (replace h2 := eq_false h2) | (replace h2 := eq_true h2)); simp only [h2, if_true, if_false, false_or, true_or, or_true, or_false, and_true, true_and, not_false_eq_true, not_true_eq_false] at hp)) <;> simp only [h,
          hp, eA_seq, eA_reg, eA_ret, eA_skip, eA_cond, eA_block, eA_exit, eCc_true, eCc_false, Kq_normal, Kq_ret, Kq_exit, Kb_normal, Kb_exit, Kb_ret, Kreg_eq, eI_nil, bindSt_some,
                bindSt_none, bindSt_ite, eR_eq, eGI_tt, eGI_ff, eGI_tf, eGI_ft, eop, vop, ev_t, ev_c, ev_f, Option.map, put_some, put_none, set_eq, setH_eq, get_eq, hp_eq,
                keep_cons, keep_nil, lk_cons, lk_nil, startSt, envOf, reduceIte, Nat.reduceEqDiff, Nat.reduceAdd, Nat.zero_add, Nat.add_zero, Nat.reduceMul, Nat.reduceLT,
                Nat.reduceLeDiff, bop, uop, intop, fltop, convop, true_or, or_true, Bool.false_eq_true, ret_ok, ret_normal, outV, rvV, rvs, ex_some, pureV, pureX, pureX.pure1',
                pure1, Bool.true_and, Bool.false_and, Bool.and_true, Bool.and_false, Option.isNone_none, AV.cells, AV.one, storable, laid, refless, refless1, List.all_cons,
                List.all_nil, List.length_cons, List.length_nil, List.getElem?_cons_zero, List.getElem?_cons_succ, List.set_cons_zero, List.set_cons_succ, List.set_nil,
                List.map_cons, List.map_nil, vload, loadC, storeC, vnil, vfaddr, vextract, callTo, List.mapM_cons, List.mapM_nil, Option.pure_def, Option.bind_eq_bind,
                Option.bind_some, tabOf_cons, flatT, flatE, flatC, and_self, and_true, true_and, implies_true, forall_const, not_true_eq_false, not_false_eq_true, false_implies,
                List.take_succ_cons, List.drop_succ_cons, List.take_zero, List.drop_zero, Bool.not_true, Bool.not_false, beq_self_eq_true, decide_true, decide_false, eq_self,
                Int.reduceEq, Int.reduceLE, Int.reduceLT, Bool.not_not, Bool.true_or, Bool.or_true, Bool.false_or, Bool.or_false, if_true, if_false, List.getElem?_nil, Kl_normal,
                Kl_exit, Kl_ret, fc34_0, fc34_1, fc34_2, fc34_3, fc34_4, fc34_5, fc34_6, fc34_7, fc34_8, fc34_9, fc34_10, fc34_11, fc34_12, fc34_13, fc34_14, fc34_15, fc34_16,
                fc34_17, fc34_18, fc34_19, fc34_20, fc34_21, fc34_22, fc34_23, fc34_24, fc34_25, cast_lit, toNat_lit, Int.reduceAdd, Int.reduceSub, Int.reduceMul, Int.reduceNeg,
                Int.reducePow, Nat.reducePow, Int.reduceToNat, Nat.reduceSub, Nat.mul_one, Int.toNat_zero, prod_eta, List.nil_append, List.cons_append, List.append_nil, Int.le_refl,
                Nat.le_refl, true_implies, take_all, vconv, vmm, vidxA, viaddrA, iaddr_sl, iaddr_lsl, getE, vfield, vlen, fillC, fillE, List.replicate, elemsOf, List.length_map,
                f2iK_eq, bits_i64, bits_i32, bits_u64, bits_u32, bits_u8, e_mov, g_mov, e_alloc, g_alloc, e_box, g_box, e_load, g_load, e_store, g_store, e_call, g_call,
                g_impl_LimitAngle, g_impl_LessVectors, g_impl_TurnBetween, dF32_map, dF64_map, dI64_map, dU8_map, dBool_map, dStr_map, decL, dF32, dF64, dI64, dU8, dBool, dStr]))
      all_goals (try simp only [*, m_impl_LookAt, Bool.and_true, Bool.true_and, Bool.and_false, Bool.false_and, Bool.or_true, Bool.true_or, Bool.or_false, Bool.false_or, Bool.not_true, Bool.not_false, Bool.false_eq_true, if_true, if_false, reduceIte, decide_true, decide_false])
      all_goals (try (simp_all; done))
    · cases h
  · cases h
def m_laws_sameFloat (x0 : Nat) (x1 : Nat) : Bool := (if (feq .f64 x0 x0) = true then (if (feq .f64 x1 x1) = true then (if (feq .f64 x0 0) = true then (if (feq .f64 x1 0) = true
      then ((flt .f64 0 (fdiv .f64 4607182418800017408 x0)) == (flt .f64 0 (fdiv .f64 4607182418800017408 x1))) else (feq .f64 x0 x1)) else (feq .f64 x0 x1)) else false) else (!(feq
      .f64 x1 x1)))
def g_laws_sameFloat : List AV → Option AV
  | [.flt .f64 y0, .flt .f64 y1] => some (.bool (m_laws_sameFloat y0 y1))
  | _ => none
def ic24 : ICode := (.seq (.reg [⟨(some 4), none, (.mov (.c (.bool false)))⟩] [0, 1]) (.seq (.seq (.reg [⟨(some 5), none, (.mov (.t 0))⟩, ⟨(some 6), none, (.mov (.t 0))⟩, ⟨(some 7),
      none, (.bin .neq false (.t 5) (.t 6))⟩, ⟨(some 8), none, (.mov (.t 7))⟩, ⟨(some 9), (some (8, false)), (.mov (.t 1))⟩, ⟨(some 10), (some (8, false)), (.mov (.t 1))⟩, ⟨(some
      11), (some (8, false)), (.bin .neq false (.t 9) (.t 10))⟩, ⟨(some 12), none, (.pick (.t 8) (.c (.bool true)) (.t 11))⟩] [0, 1, 12]) (.cond (.t 12) (.seq (.reg [⟨(some 13),
      none, (.mov (.t 0))⟩, ⟨(some 14), none, (.mov (.t 0))⟩, ⟨(some 15), none, (.bin .neq false (.t 13) (.t 14))⟩, ⟨(some 16), none, (.mov (.t 15))⟩, ⟨(some 17), (some (16, true)),
      (.mov (.t 1))⟩, ⟨(some 18), (some (16, true)), (.mov (.t 1))⟩, ⟨(some 19), (some (16, true)), (.bin .neq false (.t 17) (.t 18))⟩, ⟨(some 20), none, (.pick (.t 16) (.t 19) (.c
      (.bool false)))⟩, ⟨(some 4), none, (.mov (.t 20))⟩] [4]) .ret) .skip)) (.seq (.seq (.reg [⟨(some 21), none, (.mov (.t 0))⟩, ⟨(some 22), none, (.bin .eql false (.t 21) (.c
      (.flt .f64 0)))⟩, ⟨(some 23), none, (.mov (.t 22))⟩, ⟨(some 24), (some (23, true)), (.mov (.t 1))⟩, ⟨(some 25), (some (23, true)), (.bin .eql false (.t 24) (.c (.flt .f64
      0)))⟩, ⟨(some 26), none, (.pick (.t 23) (.t 25) (.c (.bool false)))⟩] [0, 1, 26]) (.cond (.t 26) (.seq (.reg [⟨(some 27), none, (.mov (.t 0))⟩, ⟨(some 28), none, (.bin .quo
      false (.c (.flt .f64 4607182418800017408)) (.t 27))⟩, ⟨(some 29), none, (.bin .gtr false (.t 28) (.c (.flt .f64 0)))⟩, ⟨(some 30), none, (.mov (.t 1))⟩, ⟨(some 31), none,
      (.bin .quo false (.c (.flt .f64 4607182418800017408)) (.t 30))⟩, ⟨(some 32), none, (.bin .gtr false (.t 31) (.c (.flt .f64 0)))⟩, ⟨(some 33), none, (.bin .eql true (.t 29) (.t
      32))⟩, ⟨(some 4), none, (.mov (.t 33))⟩] [4]) .ret) .skip)) (.seq (.reg [⟨(some 34), none, (.mov (.t 0))⟩, ⟨(some 35), none, (.mov (.t 1))⟩, ⟨(some 36), none, (.bin .eql false
      (.t 34) (.t 35))⟩, ⟨(some 4), none, (.mov (.t 36))⟩] [4]) .ret))))
def cp24 : CP := { n := 37, kp := [[0, 1], [0, 1, 12], [4], [0, 1, 26], [4], [4]] }
theorem fc24_0 : IntKind.wrap .i64 (-1) = (-1) := by decide
theorem fc24_1 : IntKind.wrap .i64 0 = 0 := by decide
theorem fc24_2 : IntKind.wrap .i64 1 = 1 := by decide
theorem fc24_3 : IntKind.wrap .i64 10 = 10 := by decide
theorem fc24_4 : IntKind.wrap .i64 11 = 11 := by decide
theorem fc24_5 : IntKind.wrap .i64 110 = 110 := by decide
theorem fc24_6 : IntKind.wrap .i64 12 = 12 := by decide
theorem fc24_7 : IntKind.wrap .i64 13 = 13 := by decide
theorem fc24_8 : IntKind.wrap .i64 14 = 14 := by decide
theorem fc24_9 : IntKind.wrap .i64 15 = 15 := by decide
theorem fc24_10 : IntKind.wrap .i64 156 = 156 := by decide
theorem fc24_11 : IntKind.wrap .i64 16 = 16 := by decide
theorem fc24_12 : IntKind.wrap .i64 17 = 17 := by decide
theorem fc24_13 : IntKind.wrap .i64 2 = 2 := by decide
theorem fc24_14 : IntKind.wrap .i64 20 = 20 := by decide
theorem fc24_15 : IntKind.wrap .i64 210 = 210 := by decide
theorem fc24_16 : IntKind.wrap .i64 272 = 272 := by decide
theorem fc24_17 : IntKind.wrap .i64 3 = 3 := by decide
theorem fc24_18 : IntKind.wrap .i64 4 = 4 := by decide
theorem fc24_19 : IntKind.wrap .i64 42 = 42 := by decide
theorem fc24_20 : IntKind.wrap .i64 5 = 5 := by decide
theorem fc24_21 : IntKind.wrap .i64 6 = 6 := by decide
theorem fc24_22 : IntKind.wrap .i64 7 = 7 := by decide
theorem fc24_23 : IntKind.wrap .i64 72 = 72 := by decide
theorem fc24_24 : IntKind.wrap .i64 8 = 8 := by decide
theorem fc24_25 : IntKind.wrap .i64 9 = 9 := by decide
theorem s24 : ∀ vs r, g_laws_sameFloat vs = some r → Says Try.prog 24 vs r := by
  intro vs r h
  unfold g_laws_sameFloat at h
  split at h
  · rename_i y0 y1
    cases h
    refine spec_of (tab := tabOf []) (cp := cp24) (ic := ic24) (rvl := [(.t 4)]) hm tabOk_nil Try.func24 rfl rfl rfl (by kernel_rfl) rfl (Nat.le_of_ble_eq_true rfl) ?_
    show eA _ _ _ _
    unfold ic24
    simp only [
        eA_seq, eA_reg, eA_ret, eA_skip, eA_cond, eA_block, eA_exit, eCc_true, eCc_false, Kq_normal, Kq_ret, Kq_exit, Kb_normal, Kb_exit, Kb_ret, Kreg_eq, eI_nil, bindSt_some,
              bindSt_none, bindSt_ite, eR_eq, eGI_tt, eGI_ff, eGI_tf, eGI_ft, eop, vop, ev_t, ev_c, ev_f, Option.map, put_some, put_none, set_eq, setH_eq, get_eq, hp_eq, keep_cons,
              keep_nil, lk_cons, lk_nil, startSt, envOf, reduceIte, Nat.reduceEqDiff, Nat.reduceAdd, Nat.zero_add, Nat.add_zero, Nat.reduceMul, Nat.reduceLT, Nat.reduceLeDiff, bop,
              uop, intop, fltop, convop, true_or, or_true, Bool.false_eq_true, ret_ok, ret_normal, outV, rvV, rvs, ex_some, pureV, pureX, pureX.pure1', pure1, Bool.true_and,
              Bool.false_and, Bool.and_true, Bool.and_false, Option.isNone_none, AV.cells, AV.one, storable, laid, refless, refless1, List.all_cons, List.all_nil, List.length_cons,
              List.length_nil, List.getElem?_cons_zero, List.getElem?_cons_succ, List.set_cons_zero, List.set_cons_succ, List.set_nil, List.map_cons, List.map_nil, vload, loadC,
              storeC, vnil, vfaddr, vextract, callTo, List.mapM_cons, List.mapM_nil, Option.pure_def, Option.bind_eq_bind, Option.bind_some, tabOf_cons, flatT, flatE, flatC,
              and_self, and_true, true_and, implies_true, forall_const, not_true_eq_false, not_false_eq_true, false_implies, List.take_succ_cons, List.drop_succ_cons,
              List.take_zero, List.drop_zero, Bool.not_true, Bool.not_false, beq_self_eq_true, decide_true, decide_false, eq_self, Int.reduceEq, Int.reduceLE, Int.reduceLT,
              Bool.not_not, Bool.true_or, Bool.or_true, Bool.false_or, Bool.or_false, if_true, if_false, List.getElem?_nil, Kl_normal, Kl_exit, Kl_ret, fc24_0, fc24_1, fc24_2,
              fc24_3, fc24_4, fc24_5, fc24_6, fc24_7, fc24_8, fc24_9, fc24_10, fc24_11, fc24_12, fc24_13, fc24_14, fc24_15, fc24_16, fc24_17, fc24_18, fc24_19, fc24_20, fc24_21,
              fc24_22, fc24_23, fc24_24, fc24_25, cast_lit, toNat_lit, Int.reduceAdd, Int.reduceSub, Int.reduceMul, Int.reduceNeg, Int.reducePow, Nat.reducePow, Int.reduceToNat,
              Nat.reduceSub, Nat.mul_one, Int.toNat_zero, prod_eta, List.nil_append, List.cons_append, List.append_nil, Int.le_refl, Nat.le_refl, true_implies, take_all, vconv, vmm,
              vidxA, viaddrA, iaddr_sl, iaddr_lsl, getE, vfield, vlen, fillC, fillE, List.replicate, elemsOf, List.length_map, f2iK_eq, bits_i64, bits_i32, bits_u64, bits_u32,
              bits_u8, e_mov, g_mov, e_pick, g_pick, e_bin, g_bin, dF32_map, dF64_map, dI64_map, dU8_map, dBool_map, dStr_map, decL, dF32, dF64, dI64, dU8, dBool, dStr, ↓b_pick,
              ePk_true, ePk_false]
    repeat' (first
      | ((first | (refine eGI_of (fun h => ?_) (fun h => ?_)) | (refine eCc_of (fun h => ?_) (fun h => ?_)) | (refine ePk_of (fun h => ?_) (fun h => ?_))) <;> (try simp only [Bool.not_eq_true', Bool.not_eq_false'] at h) <;> simp only [h,
        eA_seq, eA_reg, eA_ret, eA_skip, eA_cond, eA_block, eA_exit, eCc_true, eCc_false, Kq_normal, Kq_ret, Kq_exit, Kb_normal, Kb_exit, Kb_ret, Kreg_eq, eI_nil, bindSt_some,
              bindSt_none, bindSt_ite, eR_eq, eGI_tt, eGI_ff, eGI_tf, eGI_ft, eop, vop, ev_t, ev_c, ev_f, Option.map, put_some, put_none, set_eq, setH_eq, get_eq, hp_eq, keep_cons,
              keep_nil, lk_cons, lk_nil, startSt, envOf, reduceIte, Nat.reduceEqDiff, Nat.reduceAdd, Nat.zero_add, Nat.add_zero, Nat.reduceMul, Nat.reduceLT, Nat.reduceLeDiff, bop,
              uop, intop, fltop, convop, true_or, or_true, Bool.false_eq_true, ret_ok, ret_normal, outV, rvV, rvs, ex_some, pureV, pureX, pureX.pure1', pure1, Bool.true_and,
              Bool.false_and, Bool.and_true, Bool.and_false, Option.isNone_none, AV.cells, AV.one, storable, laid, refless, refless1, List.all_cons, List.all_nil, List.length_cons,
              List.length_nil, List.getElem?_cons_zero, List.getElem?_cons_succ, List.set_cons_zero, List.set_cons_succ, List.set_nil, List.map_cons, List.map_nil, vload, loadC,
              storeC, vnil, vfaddr, vextract, callTo, List.mapM_cons, List.mapM_nil, Option.pure_def, Option.bind_eq_bind, Option.bind_some, tabOf_cons, flatT, flatE, flatC,
              and_self, and_true, true_and, implies_true, forall_const, not_true_eq_false, not_false_eq_true, false_implies, List.take_succ_cons, List.drop_succ_cons,
              List.take_zero, List.drop_zero, Bool.not_true, Bool.not_false, beq_self_eq_true, decide_true, decide_false, eq_self, Int.reduceEq, Int.reduceLE, Int.reduceLT,
              Bool.not_not, Bool.true_or, Bool.or_true, Bool.false_or, Bool.or_false, if_true, if_false, List.getElem?_nil, Kl_normal, Kl_exit, Kl_ret, fc24_0, fc24_1, fc24_2,
              fc24_3, fc24_4, fc24_5, fc24_6, fc24_7, fc24_8, fc24_9, fc24_10, fc24_11, fc24_12, fc24_13, fc24_14, fc24_15, fc24_16, fc24_17, fc24_18, fc24_19, fc24_20, fc24_21,
              fc24_22, fc24_23, fc24_24, fc24_25, cast_lit, toNat_lit, Int.reduceAdd, Int.reduceSub, Int.reduceMul, Int.reduceNeg, Int.reducePow, Nat.reducePow, Int.reduceToNat,
              Nat.reduceSub, Nat.mul_one, Int.toNat_zero, prod_eta, List.nil_append, List.cons_append, List.append_nil, Int.le_refl, Nat.le_refl, true_implies, take_all, vconv, vmm,
              vidxA, viaddrA, iaddr_sl, iaddr_lsl, getE, vfield, vlen, fillC, fillE, List.replicate, elemsOf, List.length_map, f2iK_eq, bits_i64, bits_i32, bits_u64, bits_u32,
              bits_u8, e_mov, g_mov, e_pick, g_pick, e_bin, g_bin, dF32_map, dF64_map, dI64_map, dU8_map, dBool_map, dStr_map, decL, dF32, dF64, dI64, dU8, dBool, dStr, ↓b_pick,
              ePk_true, ePk_false]))
    all_goals (try simp only [*, m_laws_sameFloat, Bool.and_true, Bool.true_and, Bool.and_false, Bool.false_and, Bool.or_true, Bool.true_or, Bool.or_false, Bool.false_or, Bool.not_true, Bool.not_false, Bool.false_eq_true, if_true, if_false, reduceIte, decide_true, decide_false])
    all_goals (try (simp_all; done))
  · cases h
def m_laws_eqTurn (x0 : (Nat × Nat × Nat × Nat)) (x1 : (Nat × Nat × Nat × Nat)) : Bool := (if (m_laws_sameFloat (widen x0.1) (widen x1.1)) = true then (if (m_laws_sameFloat (widen
      x0.2.1) (widen x1.2.1)) = true then (if (m_laws_sameFloat (widen x0.2.2.1) (widen x1.2.2.1)) = true then (if (m_laws_sameFloat (widen x0.2.2.2) (widen x1.2.2.2)) = true then
      true else false) else false) else false) else false)
def g_laws_eqTurn : List AV → Option AV
  | [.agg [.flt .f32 y0, .flt .f32 y1, .flt .f32 y2, .flt .f32 y3], .agg [.flt .f32 y4, .flt .f32 y5, .flt .f32 y6, .flt .f32 y7]] => some
      (.bool (m_laws_eqTurn (y0, y1, y2, y3) (y4, y5, y6, y7)))
  | _ => none
def ic28 : ICode := (.seq (.reg [⟨(some 2), none, (.box 4 (.t 0))⟩, ⟨(some 3), none, (.box 4 (.t 1))⟩, ⟨(some 4), none, (.mov (.c (.bool false)))⟩] [2, 3]) (.seq (.seq (.reg [⟨(some
      5), none, (.faddr 0 (.t 2))⟩, ⟨(some 6), none, (.load none (.t 5))⟩, ⟨(some 7), none, (.conv (.flt .f64) (.t 6))⟩, ⟨(some 8), none, (.faddr 0 (.t 3))⟩, ⟨(some 9), none, (.load
      none (.t 8))⟩, ⟨(some 10), none, (.conv (.flt .f64) (.t 9))⟩, ⟨(some 11), none, (.call (.fn 24) [(.t 7), (.t 10)] [])⟩, ⟨(some 12), none, (.un .not (.t 11))⟩] [2, 3, 12])
      (.cond (.t 12) (.seq (.reg [⟨(some 4), none, (.mov (.c (.bool false)))⟩] [4]) .ret) .skip)) (.seq (.seq (.reg [⟨(some 13), none, (.faddr 1 (.t 2))⟩, ⟨(some 14), none, (.load
      none (.t 13))⟩, ⟨(some 15), none, (.conv (.flt .f64) (.t 14))⟩, ⟨(some 16), none, (.faddr 1 (.t 3))⟩, ⟨(some 17), none, (.load none (.t 16))⟩, ⟨(some 18), none, (.conv (.flt
      .f64) (.t 17))⟩, ⟨(some 19), none, (.call (.fn 24) [(.t 15), (.t 18)] [])⟩, ⟨(some 20), none, (.un .not (.t 19))⟩] [2, 3, 20]) (.cond (.t 20) (.seq (.reg [⟨(some 4), none,
      (.mov (.c (.bool false)))⟩] [4]) .ret) .skip)) (.seq (.seq (.reg [⟨(some 21), none, (.faddr 2 (.t 2))⟩, ⟨(some 22), none, (.load none (.t 21))⟩, ⟨(some 23), none, (.conv (.flt
      .f64) (.t 22))⟩, ⟨(some 24), none, (.faddr 2 (.t 3))⟩, ⟨(some 25), none, (.load none (.t 24))⟩, ⟨(some 26), none, (.conv (.flt .f64) (.t 25))⟩, ⟨(some 27), none, (.call (.fn
      24) [(.t 23), (.t 26)] [])⟩, ⟨(some 28), none, (.un .not (.t 27))⟩] [2, 3, 28]) (.cond (.t 28) (.seq (.reg [⟨(some 4), none, (.mov (.c (.bool false)))⟩] [4]) .ret) .skip))
      (.seq (.seq (.reg [⟨(some 29), none, (.faddr 3 (.t 2))⟩, ⟨(some 30), none, (.load none (.t 29))⟩, ⟨(some 31), none, (.conv (.flt .f64) (.t 30))⟩, ⟨(some 32), none, (.faddr 3
      (.t 3))⟩, ⟨(some 33), none, (.load none (.t 32))⟩, ⟨(some 34), none, (.conv (.flt .f64) (.t 33))⟩, ⟨(some 35), none, (.call (.fn 24) [(.t 31), (.t 34)] [])⟩, ⟨(some 36), none,
      (.un .not (.t 35))⟩] [36]) (.cond (.t 36) (.seq (.reg [⟨(some 4), none, (.mov (.c (.bool false)))⟩] [4]) .ret) .skip)) (.seq (.reg [⟨(some 4), none, (.mov (.c (.bool true)))⟩]
      [4]) .ret))))))
def cp28 : CP := { n := 37, kp := [[2, 3], [2, 3, 12], [4], [2, 3, 20], [4], [2, 3, 28], [4], [36], [4], [4]] }
theorem fc28_0 : IntKind.wrap .i64 (-1) = (-1) := by decide
theorem fc28_1 : IntKind.wrap .i64 0 = 0 := by decide
theorem fc28_2 : IntKind.wrap .i64 1 = 1 := by decide
theorem fc28_3 : IntKind.wrap .i64 10 = 10 := by decide
theorem fc28_4 : IntKind.wrap .i64 11 = 11 := by decide
theorem fc28_5 : IntKind.wrap .i64 110 = 110 := by decide
theorem fc28_6 : IntKind.wrap .i64 12 = 12 := by decide
theorem fc28_7 : IntKind.wrap .i64 13 = 13 := by decide
theorem fc28_8 : IntKind.wrap .i64 14 = 14 := by decide
theorem fc28_9 : IntKind.wrap .i64 15 = 15 := by decide
theorem fc28_10 : IntKind.wrap .i64 156 = 156 := by decide
theorem fc28_11 : IntKind.wrap .i64 16 = 16 := by decide
theorem fc28_12 : IntKind.wrap .i64 17 = 17 := by decide
theorem fc28_13 : IntKind.wrap .i64 2 = 2 := by decide
theorem fc28_14 : IntKind.wrap .i64 20 = 20 := by decide
theorem fc28_15 : IntKind.wrap .i64 210 = 210 := by decide
theorem fc28_16 : IntKind.wrap .i64 272 = 272 := by decide
theorem fc28_17 : IntKind.wrap .i64 3 = 3 := by decide
theorem fc28_18 : IntKind.wrap .i64 4 = 4 := by decide
theorem fc28_19 : IntKind.wrap .i64 42 = 42 := by decide
theorem fc28_20 : IntKind.wrap .i64 5 = 5 := by decide
theorem fc28_21 : IntKind.wrap .i64 6 = 6 := by decide
theorem fc28_22 : IntKind.wrap .i64 7 = 7 := by decide
theorem fc28_23 : IntKind.wrap .i64 72 = 72 := by decide
theorem fc28_24 : IntKind.wrap .i64 8 = 8 := by decide
theorem fc28_25 : IntKind.wrap .i64 9 = 9 := by decide
theorem s28 : ∀ vs r, g_laws_eqTurn vs = some r → Says Try.prog 28 vs r := by
  intro vs r h
  unfold g_laws_eqTurn at h
  split at h
  · rename_i y0 y1 y2 y3 y4 y5 y6 y7
    cases h
    refine spec_of (tab := tabOf [(24, g_laws_sameFloat)]) (cp := cp28) (ic := ic28) (rvl := [(.t 4)]) hm (tabOk_cons s24 tabOk_nil) Try.func28 rfl rfl rfl (by kernel_rfl) rfl (Nat.le_of_ble_eq_true rfl) ?_
    show eA _ _ _ _
    unfold ic28
    simp only [
        eA_seq, eA_reg, eA_ret, eA_skip, eA_cond, eA_block, eA_exit, eCc_true, eCc_false, Kq_normal, Kq_ret, Kq_exit, Kb_normal, Kb_exit, Kb_ret, Kreg_eq, eI_nil, bindSt_some,
              bindSt_none, bindSt_ite, eR_eq, eGI_tt, eGI_ff, eGI_tf, eGI_ft, eop, vop, ev_t, ev_c, ev_f, Option.map, put_some, put_none, set_eq, setH_eq, get_eq, hp_eq, keep_cons,
              keep_nil, lk_cons, lk_nil, startSt, envOf, reduceIte, Nat.reduceEqDiff, Nat.reduceAdd, Nat.zero_add, Nat.add_zero, Nat.reduceMul, Nat.reduceLT, Nat.reduceLeDiff, bop,
              uop, intop, fltop, convop, true_or, or_true, Bool.false_eq_true, ret_ok, ret_normal, outV, rvV, rvs, ex_some, pureV, pureX, pureX.pure1', pure1, Bool.true_and,
              Bool.false_and, Bool.and_true, Bool.and_false, Option.isNone_none, AV.cells, AV.one, storable, laid, refless, refless1, List.all_cons, List.all_nil, List.length_cons,
              List.length_nil, List.getElem?_cons_zero, List.getElem?_cons_succ, List.set_cons_zero, List.set_cons_succ, List.set_nil, List.map_cons, List.map_nil, vload, loadC,
              storeC, vnil, vfaddr, vextract, callTo, List.mapM_cons, List.mapM_nil, Option.pure_def, Option.bind_eq_bind, Option.bind_some, tabOf_cons, flatT, flatE, flatC,
              and_self, and_true, true_and, implies_true, forall_const, not_true_eq_false, not_false_eq_true, false_implies, List.take_succ_cons, List.drop_succ_cons,
              List.take_zero, List.drop_zero, Bool.not_true, Bool.not_false, beq_self_eq_true, decide_true, decide_false, eq_self, Int.reduceEq, Int.reduceLE, Int.reduceLT,
              Bool.not_not, Bool.true_or, Bool.or_true, Bool.false_or, Bool.or_false, if_true, if_false, List.getElem?_nil, Kl_normal, Kl_exit, Kl_ret, fc28_0, fc28_1, fc28_2,
              fc28_3, fc28_4, fc28_5, fc28_6, fc28_7, fc28_8, fc28_9, fc28_10, fc28_11, fc28_12, fc28_13, fc28_14, fc28_15, fc28_16, fc28_17, fc28_18, fc28_19, fc28_20, fc28_21,
              fc28_22, fc28_23, fc28_24, fc28_25, cast_lit, toNat_lit, Int.reduceAdd, Int.reduceSub, Int.reduceMul, Int.reduceNeg, Int.reducePow, Nat.reducePow, Int.reduceToNat,
              Nat.reduceSub, Nat.mul_one, Int.toNat_zero, prod_eta, List.nil_append, List.cons_append, List.append_nil, Int.le_refl, Nat.le_refl, true_implies, take_all, vconv, vmm,
              vidxA, viaddrA, iaddr_sl, iaddr_lsl, getE, vfield, vlen, fillC, fillE, List.replicate, elemsOf, List.length_map, f2iK_eq, bits_i64, bits_i32, bits_u64, bits_u32,
              bits_u8, e_mov, g_mov, e_box, g_box, e_load, g_load, e_un, g_un, e_conv, g_conv, e_faddr, g_faddr, e_call, g_call, g_laws_sameFloat, dF32_map, dF64_map, dI64_map,
              dU8_map, dBool_map, dStr_map, decL, dF32, dF64, dI64, dU8, dBool, dStr]
    repeat' (first
      | ((first | (refine eGI_of (fun h => ?_) (fun h => ?_)) | (refine eCc_of (fun h => ?_) (fun h => ?_))) <;> (try simp only [Bool.not_eq_true', Bool.not_eq_false'] at h) <;> simp only [h,
        eA_seq, eA_reg, eA_ret, eA_skip, eA_cond, eA_block, eA_exit, eCc_true, eCc_false, Kq_normal, Kq_ret, Kq_exit, Kb_normal, Kb_exit, Kb_ret, Kreg_eq, eI_nil, bindSt_some,
              bindSt_none, bindSt_ite, eR_eq, eGI_tt, eGI_ff, eGI_tf, eGI_ft, eop, vop, ev_t, ev_c, ev_f, Option.map, put_some, put_none, set_eq, setH_eq, get_eq, hp_eq, keep_cons,
              keep_nil, lk_cons, lk_nil, startSt, envOf, reduceIte, Nat.reduceEqDiff, Nat.reduceAdd, Nat.zero_add, Nat.add_zero, Nat.reduceMul, Nat.reduceLT, Nat.reduceLeDiff, bop,
              uop, intop, fltop, convop, true_or, or_true, Bool.false_eq_true, ret_ok, ret_normal, outV, rvV, rvs, ex_some, pureV, pureX, pureX.pure1', pure1, Bool.true_and,
              Bool.false_and, Bool.and_true, Bool.and_false, Option.isNone_none, AV.cells, AV.one, storable, laid, refless, refless1, List.all_cons, List.all_nil, List.length_cons,
              List.length_nil, List.getElem?_cons_zero, List.getElem?_cons_succ, List.set_cons_zero, List.set_cons_succ, List.set_nil, List.map_cons, List.map_nil, vload, loadC,
              storeC, vnil, vfaddr, vextract, callTo, List.mapM_cons, List.mapM_nil, Option.pure_def, Option.bind_eq_bind, Option.bind_some, tabOf_cons, flatT, flatE, flatC,
              and_self, and_true, true_and, implies_true, forall_const, not_true_eq_false, not_false_eq_true, false_implies, List.take_succ_cons, List.drop_succ_cons,
              List.take_zero, List.drop_zero, Bool.not_true, Bool.not_false, beq_self_eq_true, decide_true, decide_false, eq_self, Int.reduceEq, Int.reduceLE, Int.reduceLT,
              Bool.not_not, Bool.true_or, Bool.or_true, Bool.false_or, Bool.or_false, if_true, if_false, List.getElem?_nil, Kl_normal, Kl_exit, Kl_ret, fc28_0, fc28_1, fc28_2,
              fc28_3, fc28_4, fc28_5, fc28_6, fc28_7, fc28_8, fc28_9, fc28_10, fc28_11, fc28_12, fc28_13, fc28_14, fc28_15, fc28_16, fc28_17, fc28_18, fc28_19, fc28_20, fc28_21,
              fc28_22, fc28_23, fc28_24, fc28_25, cast_lit, toNat_lit, Int.reduceAdd, Int.reduceSub, Int.reduceMul, Int.reduceNeg, Int.reducePow, Nat.reducePow, Int.reduceToNat,
              Nat.reduceSub, Nat.mul_one, Int.toNat_zero, prod_eta, List.nil_append, List.cons_append, List.append_nil, Int.le_refl, Nat.le_refl, true_implies, take_all, vconv, vmm,
              vidxA, viaddrA, iaddr_sl, iaddr_lsl, getE, vfield, vlen, fillC, fillE, List.replicate, elemsOf, List.length_map, f2iK_eq, bits_i64, bits_i32, bits_u64, bits_u32,
              bits_u8, e_mov, g_mov, e_box, g_box, e_load, g_load, e_un, g_un, e_conv, g_conv, e_faddr, g_faddr, e_call, g_call, g_laws_sameFloat, dF32_map, dF64_map, dI64_map,
              dU8_map, dBool_map, dStr_map, decL, dF32, dF64, dI64, dU8, dBool, dStr]))
    all_goals (try simp only [*, m_laws_eqTurn, Bool.and_true, Bool.true_and, Bool.and_false, Bool.false_and, Bool.or_true, Bool.true_or, Bool.or_false, Bool.false_or, Bool.not_true, Bool.not_false, Bool.false_eq_true, if_true, if_false, reduceIte, decide_true, decide_false])
    all_goals (try (simp_all; done))
  · cases h
def v_laws_FnExactLookAt_0 (x0 : (Nat × Nat × Nat)) (x1 : (Nat × Nat × Nat)) (x2 : (Nat × Nat × Nat)) (x3 : Nat) : Bool := (m_laws_eqTurn (m_impl_LookAt (m_laws_toVector x0)
      (m_laws_toVector x1) (m_laws_toVector x2) x3) (m_spec_LookAt (m_laws_toVector x0) (m_laws_toVector x1) (m_laws_toVector x2) x3))
def m_laws_FnExactLookAt (x0 : (Nat × Nat × Nat)) (x1 : (Nat × Nat × Nat)) (x2 : (Nat × Nat × Nat)) (x3 : Nat) : Bool := (if (v_laws_FnExactLookAt_0 x0 x1 x2 x3) = true then true
      else false)
def p_laws_FnExactLookAt (x0 : (Nat × Nat × Nat)) (x1 : (Nat × Nat × Nat)) (x2 : (Nat × Nat × Nat)) (x3 : Nat) : Bool := ((p_spec_LookAt (m_laws_toVector x0) (m_laws_toVector x1)
      (m_laws_toVector x2) x3) && (p_impl_LookAt (m_laws_toVector x0) (m_laws_toVector x1) (m_laws_toVector x2) x3))
def g_laws_FnExactLookAt : List AV → Option AV
  | [.agg [.flt .f32 y0, .flt .f32 y1, .flt .f32 y2], .agg [.flt .f32 y3, .flt .f32 y4, .flt .f32 y5], .agg [.flt .f32 y6, .flt .f32
      y7, .flt .f32 y8], .flt .f32 y9] => if p_laws_FnExactLookAt (y0, y1, y2) (y3, y4, y5) (y6, y7, y8) y9 = true then some (.bool (m_laws_FnExactLookAt (y0, y1, y2) (y3, y4, y5)
      (y6, y7, y8) y9)) else none
  | _ => none
def ic10 : ICode := (.seq (.reg [⟨(some 4), none, (.box 3 (.t 0))⟩, ⟨(some 5), none, (.box 3 (.t 1))⟩, ⟨(some 6), none, (.box 3 (.t 2))⟩, ⟨(some 8), none, (.mov (.c (.bool
      false)))⟩] [3, 4, 5, 6]) (.seq (.reg [⟨(some 11), none, (.load (some 3) (.t 4))⟩, ⟨(some 12), none, (.call (.fn 12) [(.t 11)] [])⟩, ⟨(some 13), none, (.load (some 3) (.t 5))⟩,
      ⟨(some 14), none, (.call (.fn 12) [(.t 13)] [])⟩, ⟨(some 15), none, (.load (some 3) (.t 6))⟩, ⟨(some 16), none, (.call (.fn 12) [(.t 15)] [])⟩, ⟨(some 17), none, (.mov (.t
      3))⟩, ⟨(some 18), none, (.call (.fn 33) [(.t 12), (.t 14), (.t 16), (.t 17)] [])⟩, ⟨(some 9), none, (.alloc (.agg [(.flt .f32 0), (.flt .f32 0), (.flt .f32 0), (.flt .f32
      0)]))⟩, ⟨none, none, (.store 4 (.t 9) (.t 18))⟩] [3, 4, 5, 6, 9]) (.seq (.reg [⟨(some 19), none, (.load (some 3) (.t 4))⟩, ⟨(some 20), none, (.call (.fn 12) [(.t 19)] [])⟩,
      ⟨(some 21), none, (.load (some 3) (.t 5))⟩, ⟨(some 22), none, (.call (.fn 12) [(.t 21)] [])⟩, ⟨(some 23), none, (.load (some 3) (.t 6))⟩, ⟨(some 24), none, (.call (.fn 12)
      [(.t 23)] [])⟩, ⟨(some 25), none, (.mov (.t 3))⟩, ⟨(some 26), none, (.call (.fn 34) [(.t 20), (.t 22), (.t 24), (.t 25)] [])⟩, ⟨(some 10), none, (.alloc (.agg [(.flt .f32 0),
      (.flt .f32 0), (.flt .f32 0), (.flt .f32 0)]))⟩, ⟨none, none, (.store 4 (.t 10) (.t 26))⟩] [9, 10]) (.seq (.seq (.reg [⟨(some 27), none, (.load (some 4) (.t 10))⟩, ⟨(some 28),
      none, (.load (some 4) (.t 9))⟩, ⟨(some 29), none, (.call (.fn 28) [(.t 27), (.t 28)] [])⟩, ⟨(some 30), none, (.un .not (.t 29))⟩] [30]) (.cond (.t 30) (.seq (.reg [⟨(some 8),
      none, (.mov (.c (.bool false)))⟩] [8]) .ret) .skip)) (.seq (.reg [⟨(some 8), none, (.mov (.c (.bool true)))⟩] [8]) .ret)))))
def cp10 : CP := { n := 31, kp := [[3, 4, 5, 6], [3, 4, 5, 6, 9], [9, 10], [30], [8], [8]] }
theorem fc10_0 : IntKind.wrap .i64 (-1) = (-1) := by decide
theorem fc10_1 : IntKind.wrap .i64 0 = 0 := by decide
theorem fc10_2 : IntKind.wrap .i64 1 = 1 := by decide
theorem fc10_3 : IntKind.wrap .i64 10 = 10 := by decide
theorem fc10_4 : IntKind.wrap .i64 11 = 11 := by decide
theorem fc10_5 : IntKind.wrap .i64 110 = 110 := by decide
theorem fc10_6 : IntKind.wrap .i64 12 = 12 := by decide
theorem fc10_7 : IntKind.wrap .i64 13 = 13 := by decide
theorem fc10_8 : IntKind.wrap .i64 14 = 14 := by decide
theorem fc10_9 : IntKind.wrap .i64 15 = 15 := by decide
theorem fc10_10 : IntKind.wrap .i64 156 = 156 := by decide
theorem fc10_11 : IntKind.wrap .i64 16 = 16 := by decide
theorem fc10_12 : IntKind.wrap .i64 17 = 17 := by decide
theorem fc10_13 : IntKind.wrap .i64 2 = 2 := by decide
theorem fc10_14 : IntKind.wrap .i64 20 = 20 := by decide
theorem fc10_15 : IntKind.wrap .i64 210 = 210 := by decide
theorem fc10_16 : IntKind.wrap .i64 272 = 272 := by decide
theorem fc10_17 : IntKind.wrap .i64 3 = 3 := by decide
theorem fc10_18 : IntKind.wrap .i64 4 = 4 := by decide
theorem fc10_19 : IntKind.wrap .i64 42 = 42 := by decide
theorem fc10_20 : IntKind.wrap .i64 5 = 5 := by decide
theorem fc10_21 : IntKind.wrap .i64 6 = 6 := by decide
theorem fc10_22 : IntKind.wrap .i64 7 = 7 := by decide
theorem fc10_23 : IntKind.wrap .i64 72 = 72 := by decide
theorem fc10_24 : IntKind.wrap .i64 8 = 8 := by decide
theorem fc10_25 : IntKind.wrap .i64 9 = 9 := by decide
theorem s10 : ∀ vs r, g_laws_FnExactLookAt vs = some r → Says Try.prog 10 vs r := by
  intro vs r h
  unfold g_laws_FnExactLookAt at h
  split at h
  · rename_i y0 y1 y2 y3 y4 y5 y6 y7 y8 y9
    split at h
    · rename_i hp
      cases h
      refine spec_of (tab := tabOf [(12, g_laws_toVector), (28, g_laws_eqTurn), (33, g_spec_LookAt), (34, g_impl_LookAt)]) (cp := cp10) (ic := ic10) (rvl := [(.t 8)]) hm (tabOk_cons s12 (tabOk_cons s28 (tabOk_cons s33 (tabOk_cons s34 tabOk_nil)))) Try.func10 rfl rfl rfl (by kernel_rfl) rfl (Nat.le_of_ble_eq_true rfl) ?_
      show eA _ _ _ _
      unfold ic10
      simp only [p_laws_FnExactLookAt, v_laws_FnExactLookAt_0, Bool.and_eq_true, Bool.or_eq_true, decide_eq_true_eq, Bool.not_eq_true', decide_eq_false_iff_not] at hp
      simp only [
          hp, eA_seq, eA_reg, eA_ret, eA_skip, eA_cond, eA_block, eA_exit, eCc_true, eCc_false, Kq_normal, Kq_ret, Kq_exit, Kb_normal, Kb_exit, Kb_ret, Kreg_eq, eI_nil, bindSt_some,
                bindSt_none, bindSt_ite, eR_eq, eGI_tt, eGI_ff, eGI_tf, eGI_ft, eop, vop, ev_t, ev_c, ev_f, Option.map, put_some, put_none, set_eq, setH_eq, get_eq, hp_eq,
                keep_cons, keep_nil, lk_cons, lk_nil, startSt, envOf, reduceIte, Nat.reduceEqDiff, Nat.reduceAdd, Nat.zero_add, Nat.add_zero, Nat.reduceMul, Nat.reduceLT,
                Nat.reduceLeDiff, bop, uop, intop, fltop, convop, true_or, or_true, Bool.false_eq_true, ret_ok, ret_normal, outV, rvV, rvs, ex_some, pureV, pureX, pureX.pure1',
                pure1, Bool.true_and, Bool.false_and, Bool.and_true, Bool.and_false, Option.isNone_none, AV.cells, AV.one, storable, laid, refless, refless1, List.all_cons,
                List.all_nil, List.length_cons, List.length_nil, List.getElem?_cons_zero, List.getElem?_cons_succ, List.set_cons_zero, List.set_cons_succ, List.set_nil,
                List.map_cons, List.map_nil, vload, loadC, storeC, vnil, vfaddr, vextract, callTo, List.mapM_cons, List.mapM_nil, Option.pure_def, Option.bind_eq_bind,
                Option.bind_some, tabOf_cons, flatT, flatE, flatC, and_self, and_true, true_and, implies_true, forall_const, not_true_eq_false, not_false_eq_true, false_implies,
                List.take_succ_cons, List.drop_succ_cons, List.take_zero, List.drop_zero, Bool.not_true, Bool.not_false, beq_self_eq_true, decide_true, decide_false, eq_self,
                Int.reduceEq, Int.reduceLE, Int.reduceLT, Bool.not_not, Bool.true_or, Bool.or_true, Bool.false_or, Bool.or_false, if_true, if_false, List.getElem?_nil, Kl_normal,
                Kl_exit, Kl_ret, fc10_0, fc10_1, fc10_2, fc10_3, fc10_4, fc10_5, fc10_6, fc10_7, fc10_8, fc10_9, fc10_10, fc10_11, fc10_12, fc10_13, fc10_14, fc10_15, fc10_16,
                fc10_17, fc10_18, fc10_19, fc10_20, fc10_21, fc10_22, fc10_23, fc10_24, fc10_25, cast_lit, toNat_lit, Int.reduceAdd, Int.reduceSub, Int.reduceMul, Int.reduceNeg,
                Int.reducePow, Nat.reducePow, Int.reduceToNat, Nat.reduceSub, Nat.mul_one, Int.toNat_zero, prod_eta, List.nil_append, List.cons_append, List.append_nil, Int.le_refl,
                Nat.le_refl, true_implies, take_all, vconv, vmm, vidxA, viaddrA, iaddr_sl, iaddr_lsl, getE, vfield, vlen, fillC, fillE, List.replicate, elemsOf, List.length_map,
                f2iK_eq, bits_i64, bits_i32, bits_u64, bits_u32, bits_u8, e_mov, g_mov, e_alloc, g_alloc, e_box, g_box, e_load, g_load, e_store, g_store, e_un, g_un, e_call, g_call,
                g_laws_toVector, g_laws_eqTurn, g_spec_LookAt, g_impl_LookAt, dF32_map, dF64_map, dI64_map, dU8_map, dBool_map, dStr_map, decL, dF32, dF64, dI64, dU8, dBool, dStr]
      repeat' (first
        | ((first | (refine eGI_of (fun h => ?_) (fun h => ?_)) | (refine eCc_of (fun h => ?_) (fun h => ?_))) <;> (try simp only [Bool.not_eq_true', Bool.not_eq_false'] at h) <;> (try simp only [h, reduceCtorEq, Bool.not_eq_true', decide_eq_false_iff_not, Bool.not_true, Bool.not_false, Bool.false_or, Bool.true_or, Bool.true_and, Bool.false_and, Bool.and_eq_true, Bool.or_eq_true, if_true, if_false, reduceIte, Bool.false_eq_true, and_true, true_and, false_or, or_false, decide_eq_true_eq, not_false_eq_true, not_true_eq_false] at hp) <;> (try (have h2 := h; simp only [decide_eq_true_eq, decide_eq_false_iff_not] at h2; (first | (replace h2 := eq_false h2) | (replace h2 := eq_true h2)); simp only [h2, if_true, if_false, false_or, true_or, or_true, or_false, and_true, true_and, not_false_eq_true, not_true_eq_false] at hp)) <;> simp only [h,
          hp, eA_seq, eA_reg, eA_ret, eA_skip, eA_cond, eA_block, eA_exit, eCc_true, eCc_false, Kq_normal, Kq_ret, Kq_exit, Kb_normal, Kb_exit, Kb_ret, Kreg_eq, eI_nil, bindSt_some,
                bindSt_none, bindSt_ite, eR_eq, eGI_tt, eGI_ff, eGI_tf, eGI_ft, eop, vop, ev_t, ev_c, ev_f, Option.map, put_some, put_none, set_eq, setH_eq, get_eq, hp_eq,
                keep_cons, keep_nil, lk_cons, lk_nil, startSt, envOf, reduceIte, Nat.reduceEqDiff, Nat.reduceAdd, Nat.zero_add, Nat.add_zero, Nat.reduceMul, Nat.reduceLT,
                Nat.reduceLeDiff, bop, uop, intop, fltop, convop, true_or, or_true, Bool.false_eq_true, ret_ok, ret_normal, outV, rvV, rvs, ex_some, pureV, pureX, pureX.pure1',
                pure1, Bool.true_and, Bool.false_and, Bool.and_true, Bool.and_false, Option.isNone_none, AV.cells, AV.one, storable, laid, refless, refless1, List.all_cons,
                List.all_nil, List.length_cons, List.length_nil, List.getElem?_cons_zero, List.getElem?_cons_succ, List.set_cons_zero, List.set_cons_succ, List.set_nil,
                List.map_cons, List.map_nil, vload, loadC, storeC, vnil, vfaddr, vextract, callTo, List.mapM_cons, List.mapM_nil, Option.pure_def, Option.bind_eq_bind,
                Option.bind_some, tabOf_cons, flatT, flatE, flatC, and_self, and_true, true_and, implies_true, forall_const, not_true_eq_false, not_false_eq_true, false_implies,
                List.take_succ_cons, List.drop_succ_cons, List.take_zero, List.drop_zero, Bool.not_true, Bool.not_false, beq_self_eq_true, decide_true, decide_false, eq_self,
                Int.reduceEq, Int.reduceLE, Int.reduceLT, Bool.not_not, Bool.true_or, Bool.or_true, Bool.false_or, Bool.or_false, if_true, if_false, List.getElem?_nil, Kl_normal,
                Kl_exit, Kl_ret, fc10_0, fc10_1, fc10_2, fc10_3, fc10_4, fc10_5, fc10_6, fc10_7, fc10_8, fc10_9, fc10_10, fc10_11, fc10_12, fc10_13, fc10_14, fc10_15, fc10_16,
                fc10_17, fc10_18, fc10_19, fc10_20, fc10_21, fc10_22, fc10_23, fc10_24, fc10_25, cast_lit, toNat_lit, Int.reduceAdd, Int.reduceSub, Int.reduceMul, Int.reduceNeg,
                Int.reducePow, Nat.reducePow, Int.reduceToNat, Nat.reduceSub, Nat.mul_one, Int.toNat_zero, prod_eta, List.nil_append, List.cons_append, List.append_nil, Int.le_refl,
                Nat.le_refl, true_implies, take_all, vconv, vmm, vidxA, viaddrA, iaddr_sl, iaddr_lsl, getE, vfield, vlen, fillC, fillE, List.replicate, elemsOf, List.length_map,
                f2iK_eq, bits_i64, bits_i32, bits_u64, bits_u32, bits_u8, e_mov, g_mov, e_alloc, g_alloc, e_box, g_box, e_load, g_load, e_store, g_store, e_un, g_un, e_call, g_call,
                g_laws_toVector, g_laws_eqTurn, g_spec_LookAt, g_impl_LookAt, dF32_map, dF64_map, dI64_map, dU8_map, dBool_map, dStr_map, decL, dF32, dF64, dI64, dU8, dBool, dStr]))
      all_goals (try simp only [*, m_laws_FnExactLookAt, v_laws_FnExactLookAt_0, Bool.and_true, Bool.true_and, Bool.and_false, Bool.false_and, Bool.or_true, Bool.true_or, Bool.or_false, Bool.false_or, Bool.not_true, Bool.not_false, Bool.false_eq_true, if_true, if_false, reduceIte, decide_true, decide_false])
      all_goals (try (simp_all; done))
    · cases h
  · cases h
end Go.Proofs
namespace Go.Proofs
open Go.Ab
theorem sameFloat_refl (x : Nat) : m_laws_sameFloat x x = true := by
  unfold m_laws_sameFloat
  by_cases h : feq .f64 x x = true
  · simp [h]
  · simp [h]
end Go.Proofs
namespace Go.Proofs
open Go.Ab
theorem nan_ok : narrowOk m_math_NaN = true := by decide
end Go.Proofs
namespace Go.Proofs
open Go.Ab
theorem pLong (v : Nat × Nat × Nat) : p_spec_l01Long v = true := sqrt_narrow _
theorem pLongOf (v : Nat × Nat × Nat) : p_impl_LongOf v = true := sqrt_narrow _
theorem long_eq (v : Nat × Nat × Nat) : m_spec_l01Long v = m_impl_LongOf v := rfl
theorem isLength_eq (n : Nat) : m_impl_isLength n = (!(feq .f32 n 0) && m_spec_l01Finite n) := by
  unfold m_impl_isLength
  show (if m_spec_l01Finite n = true then _ else _) = _
  cases m_spec_l01Finite n <;> simp
end Go.Proofs
namespace Go.Proofs
open Go.Ab Ieee
/-- the bound of the angle of two numbers that are not both zero -/
theorem wide_bd {y x : Nat} {sy sx : Bool} {vy vx : Nat} (hy : Ex FloatKind.f64.format sy y vy) (hx : Ex FloatKind.f64.format sx x vx) (h0 : vy ≠ 0 ∨ vx ≠ 0) : Bd (m_impl_wideAngle y x) 20 := by
  have ab : ∀ {c : Nat} {s : Bool} {v : Nat}, Ex FloatKind.f64.format s c v → Ex FloatKind.f64.format false (fabs c) v := by
    intro c s v h
    obtain ⟨m, e, h1, h2, h3⟩ := h
    exact ⟨m, e, fabs_number h1, h2, h3⟩
  have ha := ab hy
  have hb := ab hx
  have ho := ford_ex hb ha
  have t0 : Bd (if (flt .f64 (fabs x) (fabs y)) = true then (fdiv .f64 (fabs x) (fabs y)) else (fdiv .f64 (fabs y) (fabs x))) 0 := by
    have z : ∀ v : Nat, sg false v = (v : Int) := fun _ => rfl
    rw [z, z] at ho
    by_cases h : flt .f64 (fabs x) (fabs y) = true
    · rw [if_pos h]
      unfold flt at h
      rw [ho] at h
      have h5 : compare (vx : Int) (vy : Int) = .lt := by simpa using h
      have h6 := Int.compare_eq_lt.1 h5
      exact bd_ratio hb ha (by omega) (by omega)
    · rw [if_neg h]
      have h5 : ¬ (vx : Int) < (vy : Int) := by
        intro h6
        apply h
        unfold flt
        rw [ho, Int.compare_eq_lt.2 h6]; rfl
      exact bd_ratio ha hb (by omega) (by omega)
  have t1 : Bd (v_impl_wideAngle_1 y x) 0 := bd_half t0
  have t2 : Bd (v_impl_wideAngle_2 y x) 0 := bd_half t1
  have t3 : Bd (v_impl_wideAngle_3 y x) 0 := bd_half t2
  have u : Bd (fmul .f64 (v_impl_wideAngle_3 y x) (v_impl_wideAngle_3 y x)) 0 := bd_mul t3 t3 (by omega)
  have term : ∀ {p n : Nat} (k : Nat), Bd p n → 1 ≤ k → k < 100 → n + 1 ≤ 900 → Bd (fsub .f64 (fdiv .f64 4607182418800017408 (ofInt .f64 (k : Int))) (fmul .f64 (fmul .f64 (v_impl_wideAngle_3 y x) (v_impl_wideAngle_3 y x)) p)) (n + 1) := by
    intro p n k hp h1 h2 h3
    exact bd_term u hp h1 (by omega) (by omega)
  have mul0 : ∀ {p n : Nat}, Bd p n → n ≤ 900 → Bd (fmul .f64 (fmul .f64 (v_impl_wideAngle_3 y x) (v_impl_wideAngle_3 y x)) p) n := by
    intro p n hp hn
    have := bd_mul u hp (by omega)
    rw [Nat.zero_add] at this; exact this
  have p1 := term 15 bd_zero (by omega) (by omega) (by omega)
  have p2 := term 13 p1 (by omega) (by omega) (by omega)
  have p3 := term 11 p2 (by omega) (by omega) (by omega)
  have p4 := term 9 p3 (by omega) (by omega) (by omega)
  have p5 := term 7 p4 (by omega) (by omega) (by omega)
  have p6 := term 5 p5 (by omega) (by omega) (by omega)
  have p7 := term 3 p6 (by omega) (by omega) (by omega)
  have p8 := term 1 p7 (by omega) (by omega) (by omega)
  have q : Bd (fmul .f64 (v_impl_wideAngle_3 y x) _) _ := bd_mul t3 p8 (by omega)
  have c8 : Bd 4620693217682128896 4 := bd_const (s := false) (m := 2 ^ 52) (e := -49) (by decide) (by decide) (by decide) (by decide)
  have q8 := bd_mul c8 q (by omega)
  have gpi : Ge1 4618760256179416344 := by
    intro W hW
    refine ⟨false, 7074237752028440, -50, by decide, by decide, ?_⟩
    rw [lp64, show (-50 - -1074 : Int).toNat = W - 50 by omega]
    have : (2 : Nat) ^ W = 2 ^ 50 * 2 ^ (W - 50) := by rw [← Nat.pow_add]; exact congrArg (2 ^ ·) (by omega)
    rw [this]
    exact Nat.mul_le_mul_right _ (by decide)
  have r : Bd (v_impl_wideAngle_11 y x) 18 := (bd_div q8 gpi (by omega)).mono (by omega)
  have c14 : Bd 4598175219545276416 18 := bd_const (s := false) (m := 2 ^ 52) (e := -54) (by decide) (by decide) (by decide) (by decide)
  have c12 : Bd 4602678819172646912 19 := bd_const (s := false) (m := 2 ^ 52) (e := -53) (by decide) (by decide) (by decide) (by decide)
  have T : Bd (if (flt .f64 (fabs x) (fabs y)) = true then (fsub .f64 4598175219545276416 (v_impl_wideAngle_11 y x)) else (v_impl_wideAngle_11 y x)) 19 := by
    split
    · exact bd_sub c14 r (by omega)
    · exact r.mono (by omega)
  have T2 : Bd (v_impl_wideAngle_13 y x) 20 := by
    unfold v_impl_wideAngle_13
    split
    · exact bd_sub c12 T (by omega)
    · exact T.mono (by omega)
  unfold m_impl_wideAngle
  split
  · exact bd_neg T2
  · exact T2
end Go.Proofs
namespace Go.Proofs
open Go.Ab Ieee
theorem zero_number {x : Nat} {s : Bool} {m : Nat} {e : Int} (h : FloatKind.f32.decode x = .number s m e) (hz : ¬ feq .f32 x 0 = true) : m ≠ 0 := by
  rintro rfl
  apply hz
  have h0 : Ex FloatKind.f32.format false 0 0 := ⟨0, -149, decode_zero32, by decide, by decide⟩
  have o2 := order_ex (ex32 h) h0
  unfold feq ford Format.order
  rw [o2, Nat.zero_mul]
  cases s <;> rfl
theorem wide_ok {y x : Nat} (hy : feq .f32 (fsub .f32 y y) 0 = true) (hx : feq .f32 (fsub .f32 x x) 0 = true) (hz : ¬ feq .f32 y 0 = true ∨ ¬ feq .f32 x 0 = true) : narrowOk (m_impl_wideAngle (widen y) (widen x)) = true := by
  obtain ⟨sy, my, ey, dy⟩ := fin32 hy
  obtain ⟨sx, mx, ex, dx⟩ := fin32 hx
  refine narrowOk_of_bd (wide_bd (widen_ex dy) (widen_ex dx) ?_) (by omega)
  rcases hz with h | h
  · exact .inl (Nat.ne_of_gt (Nat.mul_pos (Nat.pos_of_ne_zero (zero_number dy h)) (Nat.two_pow_pos _)))
  · exact .inr (Nat.ne_of_gt (Nat.mul_pos (Nat.pos_of_ne_zero (zero_number dx h)) (Nat.two_pow_pos _)))
theorem wide_eq (y x : Nat) : m_spec_l01AngleWide y x = (if (feq .f64 (fsub .f64 y y) 0) = true then (if (feq .f64 (fsub .f64 x x) 0) = true then (if (feq .f64 x 0) = true then (if (feq .f64 y 0) = true then 0 else m_impl_wideAngle y x) else m_impl_wideAngle y x) else m_math_NaN) else m_math_NaN) := rfl
theorem angle_all (y x : Nat) : p_spec_l01Angle y x = true ∧ p_impl_AngleTurns y x = true ∧ m_spec_l01Angle y x = m_impl_AngleTurns y x := by
  unfold p_spec_l01Angle p_impl_AngleTurns m_spec_l01Angle m_impl_AngleTurns p_spec_l01Narrow m_spec_l01Narrow m_impl_IsFinite p_impl_notNumber m_impl_notNumber
  rw [wide_eq, fin_widen, fin_widen, zero_widen, zero_widen]
  have n0 : narrowOk 0 = true := by decide
  have z0 : narrow 0 = 0 := by decide
  by_cases hy : feq .f32 (fsub .f32 y y) 0 = true
  · by_cases hx : feq .f32 (fsub .f32 x x) 0 = true
    · by_cases zx : feq .f32 x 0 = true
      · by_cases zy : feq .f32 y 0 = true
        · simp [hy, hx, zx, zy, n0, z0]
        · have := wide_ok hy hx (.inl zy)
          have zy' : feq .f32 y 0 = false := by simpa using zy
          simp [hy, hx, zx, zy', this]
      · have := wide_ok hy hx (.inr zx)
        have zx' : feq .f32 x 0 = false := by simpa using zx
        simp [hy, hx, zx', this]
    · have hx' : feq .f32 (fsub .f32 x x) 0 = false := by simpa using hx
      simp [hy, hx', nan_ok]
  · have hy' : feq .f32 (fsub .f32 y y) 0 = false := by simpa using hy
    by_cases hx : feq .f32 (fsub .f32 x x) 0 = true
    · simp [hy', hx, nan_ok]
    · have hx' : feq .f32 (fsub .f32 x x) 0 = false := by simpa using hx
      simp [hy', hx', nan_ok]
end Go.Proofs
namespace Go.Proofs
open Go.Ab Ieee
theorem fle_ex {a b v w : Nat} {s t : Bool} (ha : Ex FloatKind.f64.format s a v) (hb : Ex FloatKind.f64.format t b w) : fle .f64 a b = decide (sg s v ≤ sg t w) := by
  have h := ford_ex ha hb
  unfold fle
  rw [h]
  rcases Int.lt_trichotomy (sg s v) (sg t w) with k | k | k
  · rw [Int.compare_eq_lt.2 k]; simp; omega
  · rw [k, Int.compare_eq_eq.2 rfl]; simp
  · rw [Int.compare_eq_gt.2 k]; simp; omega
theorem sine_bd {X : Nat} (h0 : Bd (fsub .f64 X (ofInt .f64 (f2iV .f64 X))) 0) : narrowOk (if (fle .f64 4602678819172646912 (v_spec_l01SineWide_0 X)) = true then (v_spec_l01SineWide_11 X) else (fmul .f64 (fmul .f64 (v_spec_l01SineWide_2 X) 4618760256179416344) (fsub .f64 4607182418800017408 (fdiv .f64 (v_spec_l01SineWide_10 X) (ofInt .f64 6))))) = true := by
  have c2 : Bd 4602678819172646912 1 := bd_const (s := false) (m := 2 ^ 52) (e := -53) (by decide) (by decide) (by decide) (by decide)
  have f0 : Bd (v_spec_l01SineWide_0 X) 1 := by
    unfold v_spec_l01SineWide_0
    split
    · exact bd_add h0 bd_one (by omega)
    · exact h0.mono (by omega)
  have f1 : Bd (v_spec_l01SineWide_1 X) 2 := by
    unfold v_spec_l01SineWide_1
    split
    · exact bd_sub f0 c2 (by omega)
    · exact f0.mono (by omega)
  have f2 : Bd (v_spec_l01SineWide_2 X) 3 := by
    unfold v_spec_l01SineWide_2
    split
    · exact bd_sub (c2.mono (by omega)) f1 (by omega)
    · exact f1.mono (by omega)
  have cpi : Bd 4618760256179416344 3 := bd_const (s := false) (m := 7074237752028440) (e := -50) (by decide) (by decide) (by decide) (by decide)
  have z := bd_mul f2 cpi (by omega)
  have u := bd_mul z z (by omega)
  have step : ∀ {p n : Nat} (k : Nat), Bd p n → 1 ≤ k → k < 1000 → n ≤ 800 → Bd (fsub .f64 4607182418800017408 (fdiv .f64 (fmul .f64 (fmul .f64 (fmul .f64 (v_spec_l01SineWide_2 X) 4618760256179416344) (fmul .f64 (v_spec_l01SineWide_2 X) 4618760256179416344)) p) (ofInt .f64 (k : Int)))) (n + 13) := by
    intro p n k hp h1 h2 h3
    have a := bd_mul u hp (by omega)
    have b := bd_div a (ge1_ofInt h1 (by omega)) (by omega)
    exact (bd_sub (bd_one.mono (Nat.zero_le _)) b (by omega)).mono (by omega)
  have p1 := step 272 bd_one (by omega) (by omega) (by omega)
  have p2 := step 210 p1 (by omega) (by omega) (by omega)
  have p3 := step 156 p2 (by omega) (by omega) (by omega)
  have p4 := step 110 p3 (by omega) (by omega) (by omega)
  have p5 := step 72 p4 (by omega) (by omega) (by omega)
  have p6 := step 42 p5 (by omega) (by omega) (by omega)
  have p7 := step 20 p6 (by omega) (by omega) (by omega)
  have p8 := step 6 p7 (by omega) (by omega) (by omega)
  have r := bd_mul z p8 (by omega)
  split
  · exact narrowOk_of_bd (bd_neg r) (by omega)
  · exact narrowOk_of_bd r (by omega)
theorem sine_all {X : Nat} (hX : X < 2 ^ 64) : p_spec_l01SineWide X = true ∧ m_spec_l01SineWide X = m_impl_wideSine X ∧ narrowOk (m_impl_wideSine X) = true := by
  by_cases hf : feq .f64 (fsub .f64 X X) 0 = true
  · obtain ⟨s, m, e, hr⟩ := fin64 hf
    obtain ⟨v, hx⟩ := read_ex hr
    obtain ⟨W, hW⟩ : ∃ W : Nat, W = 1074 := ⟨_, rfl⟩
    have ha : Ex FloatKind.f64.format false (fabs X) v := by
      obtain ⟨m, e, h1, h2, h3⟩ := hx
      exact ⟨m, e, fabs_number h1, h2, h3⟩
    obtain ⟨P, hP⟩ : ∃ P : Nat, P = 2 ^ (52 + W) := ⟨_, rfl⟩
    have hc : ∀ (b : Bool) (c : Nat), FloatKind.f64.format.read c = .number b (2 ^ 52) 0 → Ex FloatKind.f64.format b c P := by
      intro b c h
      refine ⟨_, _, h, by rw [lp64]; decide, ?_⟩
      rw [hP, lp64, ← Nat.pow_add]
      exact congrArg (2 ^ ·) (by omega)
    have hp := hc false 4841369599423283200 (by decide)
    have hn := hc true 14064741636278059008 (by decide)
    have q1 := fle_ex hp ha
    have q2 := fle_ex hp hx
    have q3 := fle_ex hx hn
    have zf : ∀ n : Nat, sg false n = (n : Int) := fun _ => rfl
    rw [zf, zf] at q1
    rw [zf] at q2
    rw [sg_true] at q3
    by_cases hv : v < P
    · obtain ⟨g1, g2, g3⟩ := frac_same hW hx hX (by rw [← hP]; exact hv)
      have n1 : fle .f64 4841369599423283200 (fabs X) = false := by rw [q1]; simp; omega
      have n2 : fle .f64 4841369599423283200 X = false := by
        rw [q2]
        have : sg s v ≤ v := by unfold sg; split <;> omega
        simp; omega
      have n3 : fle .f64 X 14064741636278059008 = false := by
        rw [q3]
        have : -(v : Int) ≤ sg s v := by unfold sg; split <;> omega
        simp; omega
      have pl : m_impl_placesOf X = v_spec_l01SineWide_0 X := by
        unfold m_impl_placesOf v_impl_placesOf_0 v_spec_l01SineWide_0 m_math_Trunc
        rw [g1]
      have s2 : v_impl_sine_2 X = v_spec_l01SineWide_2 X := by
        unfold v_impl_sine_2 v_impl_sine_0 v_impl_sine_1 v_spec_l01SineWide_2 v_spec_l01SineWide_1
        rw [pl]
      have s10 : v_impl_sine_10 X = v_spec_l01SineWide_10 X := by
        unfold v_impl_sine_10 v_impl_sine_9 v_impl_sine_8 v_impl_sine_7 v_impl_sine_6 v_impl_sine_5 v_impl_sine_4 v_impl_sine_3
        rw [s2]
        rfl
      have hs : m_impl_sine X = (if (fle .f64 4602678819172646912 (v_spec_l01SineWide_0 X)) = true then (v_spec_l01SineWide_11 X) else (fmul .f64 (fmul .f64 (v_spec_l01SineWide_2 X) 4618760256179416344) (fsub .f64 4607182418800017408 (fdiv .f64 (v_spec_l01SineWide_10 X) (ofInt .f64 6))))) := by
        unfold m_impl_sine v_spec_l01SineWide_11
        rw [pl, s2, s10]
      have hw : m_impl_wideSine X = (if (fle .f64 4602678819172646912 (v_spec_l01SineWide_0 X)) = true then (v_spec_l01SineWide_11 X) else (fmul .f64 (fmul .f64 (v_spec_l01SineWide_2 X) 4618760256179416344) (fsub .f64 4607182418800017408 (fdiv .f64 (v_spec_l01SineWide_10 X) (ofInt .f64 6))))) := by
        unfold m_impl_wideSine
        rw [hf, n1, if_pos rfl, if_neg (by decide), hs]
      refine ⟨?_, ?_, ?_⟩
      · unfold p_spec_l01SineWide
        rw [g2]; simp
      · rw [hw]
        unfold m_spec_l01SineWide
        rw [hf, n2, n3, if_pos rfl, if_neg (by decide), if_neg (by decide)]
      · rw [hw]; exact sine_bd g3
    · have n1 : fle .f64 4841369599423283200 (fabs X) = true := by rw [q1]; simp; omega
      have n23 : fle .f64 4841369599423283200 X = true ∨ fle .f64 X 14064741636278059008 = true := by
        rw [q2, q3]
        cases s
        · left; rw [zf]; simp; omega
        · right; rw [sg_true]; simp; omega
      have hw : m_impl_wideSine X = 0 := by
        unfold m_impl_wideSine
        rw [hf, n1, if_pos rfl, if_pos rfl]
      refine ⟨?_, ?_, by rw [hw]; decide⟩
      · unfold p_spec_l01SineWide
        rcases n23 with h | h <;> rw [h] <;> simp
      · rw [hw]
        unfold m_spec_l01SineWide
        rw [hf, if_pos rfl]
        rcases n23 with h | h
        · rw [h]; rfl
        · rw [h]
          by_cases h5 : fle .f64 4841369599423283200 X = true
          · rw [if_pos h5]
          · rw [if_neg h5]; rfl
  · have hf' : feq .f64 (fsub .f64 X X) 0 = false := by simpa using hf
    have hw : m_impl_wideSine X = m_math_NaN := by
      unfold m_impl_wideSine; rw [hf']; rfl
    refine ⟨?_, ?_, by rw [hw]; exact nan_ok⟩
    · unfold p_spec_l01SineWide; rw [hf']; rfl
    · rw [hw]; unfold m_spec_l01SineWide; rw [hf']; rfl
end Go.Proofs
namespace Go.Proofs
open Go.Ab Ieee
theorem op2_lt {g : Datum → Datum → Option Datum} (a b : Nat) : op2 .f64 g a b < 2 ^ 64 := by
  unfold op2
  cases g (FloatKind.f64.format.read a) (FloatKind.f64.format.read b) with
  | none => show nan .f64 < _; decide
  | some d => exact FloatKind.f64.format.write_lt d
theorem about_all (v : Nat × Nat × Nat) (x : Nat) : p_spec_l02About v x = true ∧ p_impl_TurnAbout v x = true ∧ m_spec_l02About v x = m_impl_TurnAbout v x := by
  have h1 := sine_all (X := fdiv .f64 (widen x) 4611686018427387904) (op2_lt _ _)
  have h2 := sine_all (X := fadd .f64 (fdiv .f64 (widen x) 4611686018427387904) 4598175219545276416) (op2_lt _ _)
  have n : ∀ c, p_spec_l01Narrow c = narrowOk c := fun _ => rfl
  refine ⟨?_, ?_, ?_⟩
  · unfold p_spec_l02About
    rw [pLong, h1.1, h2.1, n, n, h1.2.1, h2.2.1, h1.2.2, h2.2.2]; simp
  · unfold p_impl_TurnAbout
    rw [pLongOf, h1.2.2, h2.2.2]; simp
  · unfold m_spec_l02About m_impl_TurnAbout
    rw [isLength_eq, long_eq, h1.2.1, h2.2.1]
    cases hz : feq .f32 (m_impl_LongOf v) 0 <;> cases hf : m_spec_l01Finite (m_impl_LongOf v) <;> rfl
end Go.Proofs
namespace Go.Proofs
open Go.Ab
theorem eqTurn_refl (x : Nat × Nat × Nat × Nat) : m_laws_eqTurn x x = true := by
  unfold m_laws_eqTurn
  simp [sameFloat_refl]
end Go.Proofs
namespace Go.Proofs
open Go.Ab
theorem size_all {x : Nat} (hx : Canon .f32 x) : m_spec_l02Size x = m_impl_size x ∧ p_impl_size x = true ∧ p_spec_l02Size x = true := by
  have hs := abs_same (x := x) hx.lt
  refine ⟨?_, hs.1, ?_⟩
  · show m_spec_l02Size x = narrow (abs64 x)
    rw [hs.2]
    exact abs_bits hx
  · unfold p_spec_l02Size p_spec_l01Bits
    cases feq .f32 x x <;> rfl
theorem angleOf_all {t : Nat × Nat × Nat × Nat} (ht : Canon .f32 t.1) : p_spec_l02Angle t = true ∧ p_impl_AngleOf t = true ∧ m_spec_l02Angle t = m_impl_AngleOf t := by
  obtain ⟨s1, s2, s3⟩ := size_all ht
  refine ⟨?_, ?_, ?_⟩
  · unfold p_spec_l02Angle; rw [pLong, s3, (angle_all _ _).1]; rfl
  · unfold p_impl_AngleOf; rw [pLongOf, s2, (angle_all _ _).2.1]; rfl
  · unfold m_spec_l02Angle m_impl_AngleOf; rw [(angle_all _ _).2.2, s1, long_eq]; rfl
theorem axis_eq (t : Nat × Nat × Nat × Nat) : m_spec_l04Axis t = m_impl_AxisOf t := by
  show m_spec_AxisOf t = _
  have hv : (v_spec_AxisOf_0 t, v_spec_AxisOf_1 t, v_spec_AxisOf_2 t) = m_impl_Vector_over (m_impl_Turn_vector (if (flt .f32 t.1 0) = true then (m_impl_Turn_opposite t) else t)) (m_impl_LongOf (m_impl_Turn_vector t)) := by
    unfold v_spec_AxisOf_0 v_spec_AxisOf_1 v_spec_AxisOf_2
    rw [long_eq]
    by_cases h : flt .f32 t.1 0 = true
    · simp only [if_pos h]; rfl
    · simp only [if_neg h]; rfl
  unfold m_spec_AxisOf m_impl_AxisOf
  rw [hv, isLength_eq, long_eq]
  show (if feq .f32 (m_impl_LongOf (m_impl_Turn_vector t)) 0 = true then _ else if m_spec_l01Finite (m_impl_LongOf (m_impl_Turn_vector t)) = true then _ else _) = _
  cases feq .f32 (m_impl_LongOf (m_impl_Turn_vector t)) 0 <;> cases m_spec_l01Finite (m_impl_LongOf (m_impl_Turn_vector t)) <;> rfl
theorem limit_all {t : Nat × Nat × Nat × Nat} (ht : Canon .f32 t.1) (x : Nat) : p_spec_l04Limit t x = true ∧ p_impl_LimitAngle t x = true ∧ m_spec_l04Limit t x = m_impl_LimitAngle t x := by
  obtain ⟨a1, a2, a3⟩ := angleOf_all ht
  have b1 : p_spec_l04Axis t = true := pLong _
  have b2 : p_impl_AxisOf t = true := pLongOf _
  refine ⟨?_, ?_, ?_⟩
  · unfold p_spec_l04Limit; rw [a1, b1, (about_all _ _).1]; simp
  · unfold p_impl_LimitAngle; rw [a2, b2, (about_all _ _).2.1]; simp
  · unfold m_spec_l04Limit m_impl_LimitAngle; rw [a3, axis_eq, (about_all _ _).2.2]
end Go.Proofs
namespace Go.Proofs
open Go.Ab
theorem pRoot (x : Nat) : p_impl_RootNumber x = true := sqrt_narrow _
theorem pSqrt (x : Nat) : p_spec_l01Sqrt x = true := sqrt_narrow _
theorem mend_eq (t : Nat × Nat × Nat × Nat) : m_spec_l02Mend t = m_impl_MendTurn t := by
  unfold m_spec_l02Mend m_impl_MendTurn
  rw [isLength_eq]
  show (if feq .f32 (m_impl_LengthOfTurn t) 0 = true then _ else if m_spec_l01Finite (m_impl_LengthOfTurn t) = true then _ else _) = _
  cases feq .f32 (m_impl_LengthOfTurn t) 0 <;> cases m_spec_l01Finite (m_impl_LengthOfTurn t) <;> rfl
theorem mend_canon (t : Nat × Nat × Nat × Nat) : Canon .f32 (m_impl_MendTurn t).1 := by
  unfold m_impl_MendTurn
  split
  · exact (good_quotient _).canon _ _
  · exact ⟨by decide, by decide⟩
theorem between_all (a b : Nat × Nat × Nat) : p_spec_l02Between a b = true ∧ p_impl_TurnBetween a b = true ∧ m_spec_l02Between a b = m_impl_TurnBetween a b ∧ Canon .f32 (m_impl_TurnBetween a b).1 := by
  refine ⟨?_, ?_, ?_, ?_⟩
  · unfold p_spec_l02Between p_spec_l02Mend; simp only [pLong, pSqrt, Bool.and_self, ite_self]
  · unfold p_impl_TurnBetween p_impl_MendTurn p_impl_LengthOfTurn; simp only [pLongOf, pRoot, Bool.and_self, ite_self]
  · unfold m_spec_l02Between m_impl_TurnBetween
    rw [mend_eq, mend_eq]
    have h : v_spec_l02Between_0 a b = v_impl_TurnBetween_0 a b := rfl
    rw [h]
    by_cases hc : v_impl_TurnBetween_0 a b = true
    · rw [if_pos hc, if_pos hc]; rfl
    · rw [if_neg hc, if_neg hc]; rfl
  · unfold m_impl_TurnBetween
    split
    · exact mend_canon _
    · exact mend_canon _
end Go.Proofs
namespace Go.Proofs
open Go.Ab
theorem law_LookAt (a b c : Nat) (_ : Canon .f32 a) (_ : Canon .f32 b) (_ : Canon .f32 c) (d e f : Nat) (_ : Canon .f32 d) (_ : Canon .f32 e) (_ : Canon .f32 f) (g h i : Nat) (_ : Canon .f32 g) (_ : Canon .f32 h) (_ : Canon .f32 i) (x : Nat) (_ : Canon .f32 x) :
    g_laws_FnExactLookAt [.agg [.flt .f32 a, .flt .f32 b, .flt .f32 c], .agg [.flt .f32 d, .flt .f32 e, .flt .f32 f], .agg [.flt .f32 g, .flt .f32 h, .flt .f32 i], .flt .f32 x] = some (.bool true) := by
  obtain ⟨b1, b2, b3, b4⟩ := between_all (g, h, i) (m_impl_LessVectors (d, e, f) (a, b, c))
  obtain ⟨k1, k2, k3⟩ := limit_all b4 x
  have e1 : m_spec_l01Less (d, e, f) (a, b, c) = m_impl_LessVectors (d, e, f) (a, b, c) := rfl
  have h1 : p_laws_FnExactLookAt (a, b, c) (d, e, f) (g, h, i) x = true := by
    show (p_spec_LookAt (a, b, c) (d, e, f) (g, h, i) x && p_impl_LookAt (a, b, c) (d, e, f) (g, h, i) x) = true
    unfold p_spec_LookAt p_impl_LookAt
    rw [e1, b3, b1, b2, k1, k2]; rfl
  have h2 : m_laws_FnExactLookAt (a, b, c) (d, e, f) (g, h, i) x = true := by
    show (if (m_laws_eqTurn (m_impl_LookAt (a, b, c) (d, e, f) (g, h, i) x) (m_spec_LookAt (a, b, c) (d, e, f) (g, h, i) x)) = true then true else false) = true
    unfold m_spec_LookAt m_impl_LookAt
    rw [e1, b3, k3, eqTurn_refl]; rfl
  unfold g_laws_FnExactLookAt
  simp [h1, h2]
end Go.Proofs
